/- A part. -/
import Derived.Test.YtapoehkdnglahabGreatMs
import Derived.Test.YtapoehkdnglahabGreatMt
set_option maxHeartbeats 8000000
set_option maxRecDepth 100000
set_option linter.all false
namespace Go.Proofs.YtapoehkdnglahabGreat
section
open Go.RowKit
def zck (p:da):af:=rows 26 1 cA (il p.1 p.2) (aQ p.1.before)
theorem pw (p xs):cQ (p::xs)=zck p*cQ xs:=rfl
def Bw (p:da):Prop:=p.1.before=[]/\p.2=(none,0)
theorem aq.bare {p} (h:Bw p) (H):aq H (zck p*H):=by
 have e0:aQ ([]:List UInt32)=[]:=uaZ.1 (by rw[cF];rfl);have e:zck p=rows 26 1 cA (.slice none 0 0) []:=by
  unfold zck il;rw[h.1,h.2,e0];rfl
 rw[e];exact aq.nil _ _ _ _ _
theorem aq.rG {g:da->da} (hg:∀p,zck (g p)=zck p\/Bw (g p)):∀(xs:List da) (Z:af),aq (cQ xs*Z) (cQ (xs.map g)*Z)
 |[],Z=>aq.refl _
 |p::xs,Z=>by
  rw[Hh,pw,pw,ad,ad];rcases hg p with h|h
  ·rw[h];exact aq.tail _ (aq.rG hg xs Z)
  ·exact(aq.drop _ _).trans ((aq.rG hg xs Z).trans (aq.bare h _))
theorem aq.kG {xs:List da} {i p z} (hp:xs[i]? =some p) (hz:zck z=zck p\/Bw z) (Z):aq (cQ xs*Z) (cQ (xs.set i z)*Z):=by
 have h:=az.1 hp;rw[rF hp,Go.Proofs.YtapoehkdnglahabGreat.kG h.1];have e:∀A B C:af,(A*(B*C))*Z=B*(A*(C*Z)):=λA B C=>by ac_rfl
 rw[e,e];rcases hz with hz|hz
 ·have pF:rows 26 1 cA (il z.1 z.2) (aQ z.1.before)=rows 26 1 cA (il p.1 p.2) (aQ p.1.before):=hz;rw[pF];exact aq.refl _
 ·exact(aq.drop _ _).trans (aq.bare hz _)
theorem aq.Jk {xs i z} (hz:Bw z) (Z):aq (cQ xs*Z) (cQ (uT xs i z)*Z):=by
 unfold uT;have e:cQ ((xs.take i++[z])++xs.drop i)*Z=zck z*(cQ xs*Z):=by
  have e2:cQ xs=cQ (xs.take i)*cQ (xs.drop i):=by rw[<-kF,Jt]
  rw[e2,kF,kF,pw];have e3:cQ ([]:List da)=emp:=rfl;rw[e3,b5];ac_rfl
 rw[e];exact aq.bare hz _
def ct (g:Nat) (self:UInt32) (ls:List Ln):af:=hex λy:Value×List da=>pure' (dc ls y.2)*(eA g self y.1 y.2*cQ y.2)
theorem aq.ct {g:Nat} {self:UInt32} {ls:List Ln} {v:Value} {xs:List da} {H F:af} (hr:dc ls xs) (h:aq H (eA g self v xs*(cQ xs*F))):aq H (ct g self ls*F):=
 aq.trans h (aq.trans (aq.ji hr (aq.refl _)) (aq.trans (aq.of_eq (by ac_rfl)) (aq.qA (p:=λy:Value×List da=>pure' (dc ls y.2)*(eA g self y.1 y.2*cQ y.2)) (v,xs))))
theorem Spec.ct {P w0 f args g self ls α β} {Db:β->Value} {mr} (h:∀v xs,dc ls xs->∃(res:α->Value) (post:α->af),Spec P w0 f args (eA g self v xs) res post/\∀x,∃y,res x=Db y/\∀Z,aq (post x*(cQ xs*Z)) (mr y*Z)):Spec P w0 f args (ct g self ls) Db mr:=λG w hs=>by
 have iu:Sat w0 w (hex (λy:Value×List da=>pure' (dc ls y.2)*(eA g self y.1 y.2*cQ y.2))*G):=hs;obtain⟨y,fP⟩:=iu.ex;obtain⟨hr,qI⟩:=(fP.cast (ad _ _ _)).pure;obtain⟨res,post,Qa,hy⟩:=h y.1 y.2 hr;refine(Qa (cQ y.2*G) w (qI.cast (ad _ _ _))).mono ?_;rintro e w' ⟨x,rfl,eI⟩;obtain⟨b,hb,hE⟩:=hy x;exact⟨b,by rw[hb],(hE G).sat eI⟩
theorem Spec.PG {P w0 f args g self ls α β} {Db:β->Value} {mr} (h:∀v xs,dc ls xs->∃(res:α->Value) (post:α->af),Spec P w0 f args (eA g self v xs*cQ xs) res post/\∀x,∃y,res x=Db y/\∀Z,aq (post x*Z) (mr y*Z)):Spec P w0 f args (Go.Proofs.YtapoehkdnglahabGreat.ct g self ls) Db mr:=λG w hs=>by
 have iu:Sat w0 w (hex (λy:Value×List da=>pure' (dc ls y.2)*(eA g self y.1 y.2*cQ y.2))*G):=hs;obtain⟨y,fP⟩:=iu.ex;obtain⟨hr,qI⟩:=(fP.cast (ad _ _ _)).pure;obtain⟨res,post,Qa,hy⟩:=h y.1 y.2 hr;refine(Qa G w qI).mono ?_;rintro e w' ⟨x,rfl,eI⟩;obtain⟨b,hb,hE⟩:=hy x;exact⟨b,by rw[hb],(hE G).sat eI⟩
theorem mP {P n w0 E D H F c Q g self ls} (hl:Own H (ct g self ls) F) (h:∀v xs,dc ls xs->WS P n w0 c Q ⟨E,D,eA g self v xs*(cQ xs*F)⟩):WS P n w0 c Q ⟨E,D,H⟩:=by
 rw[hl.eq];unfold ct;refine iU λx=> ?_;rw[ad,ad];exact jR λhr=>h x.1 x.2 hr
theorem F9 {p q} (h1:q.1.before=p.1.before) (h2:q.2=p.2):zck q=zck p:=by
 unfold zck il;rw[h1,h2]
theorem tE (s p):Bw (lp s p):=⟨rfl,rfl⟩
def eY (o:Option Ln) (b:Option Addr×Nat×Nat):Value:=match o with
 |some l=> .agg (bM l (cT b)).toArray
 |none=>zeroV
attribute [local irreducible] WS LS OpQ y6 cn cv Spec bA aK di cq
variable (w0:World)
theorem KT (g self ls) (ok:aW ls) (now):Spec ucC w0 150 [ptr g 0,u64 now] (ct g self ls) (λ_:Unit=> .tuple #[]) (λ_=>ct g self (mE now ls)):=
 Spec.ct λv xs hr=>⟨_,_,Bg w0 g self v xs (by rw[hr.length];have:=ok.short;omega) now,λ_=>⟨(),rfl,λZ=>aq.ct (hr.exp now) (aq.tail _ (aq.rG (λp=>by unfold yw;split;exact .inr (tE _ _);exact .inl rfl) _ _))⟩⟩
theorem KP (g self ls) (ok:aW ls) (nb):Spec ucC w0 137 [ptr g 0,u32 nb] (ct g self ls) (λv:Value=>v) (λv=>rows 180 2 bB v (jh nb (aQ (aO ls)) ls)*ct g self (nH nb ls)):=
 Spec.ct λv xs hr=>⟨_,_,Bb w0 g self v xs (by rw[hr.length];have:=ok.short;omega) nb,λvo=>⟨vo,rfl,λZ=>by
  rw[hr.outs ok nb]
  have e:∀A B C D:af,(A*B)*(C*D)=B*(A*(C*D)):=λA B C D=>by ac_rfl
  rw[e]
  refine aq.trans ?_ (aq.of_eq (ad _ _ _).symm)
  exact aq.tail _ (aq.ct (hr.brk nb) (aq.tail _ (aq.rG (λp=>by unfold yu;split;exact .inr (tE _ _);exact .inl rfl) _ _)))⟩⟩
theorem Df (g self ls) (ok:aW ls) (d e):Spec ucC w0 189 [ptr g 0,u32 d,u64 e] (ct g self ls) (λ_:Unit=> .tuple #[]) (λ_=>ct g self (iY ls d e)):=
 Spec.ct λv xs hr=>⟨_,_,Ii w0 g self v xs (by rw[hr.length];have:=ok.short;omega) d e,λ_=>⟨(),rfl,λZ=>aq.ct (hr.use d e) (aq.tail _ (by
  unfold Lb
  cases hg:fj xs d with
  |none=>exact aq.refl _
  |some p=>
   dsimp only
   split
   ·exact aq.kG (z:=({p.1 with cB:=e},p.2)) (fl hg).1 (.inl (F9 rfl rfl)) _
   ·exact aq.refl _))⟩⟩
theorem NL (g self ls) (ok:aW ls) (d q h nb e):Spec ucC w0 188 [ptr g 0,u32 d,u32 q,.int .i64 h,u32 nb,u64 e] (ct g self ls) (λ_:Unit=> .int .i64 (dI self ls (Ln.bj d q h nb e)).1) (λ_=>ct g self (dI self ls (Ln.bj d q h nb e)).2):=
 Spec.ct λv xs hr=>⟨_,_,Ih w0 g self v xs (by rw[hr.length];have:=ok.short;omega) d q h nb e,λv'=>⟨(),by rw[(hr.La self d q h nb e).1],λZ=>aq.ct (v:=v') (hr.La self d q h nb e).2 (aq.tail _ (by
  unfold Fm
  split
  ·exact aq.refl _
  ·cases hg:fj xs d with
   |none=>
    dsimp only
    split
    ·exact aq.refl _
    ·exact aq.Jk ⟨rfl,rfl⟩ _
   |some p=>
    dsimp only
    split
    ·exact aq.refl _
    ·exact aq.kG (fl hg).1 (.inr ⟨rfl,rfl⟩) _))⟩⟩
theorem nU (g self ls) (ok:aW ls) (d now):Spec ucC w0 152 [ptr g 0,u32 d,u64 now] (ct g self ls) (λb:Option Addr×Nat×Nat=> .tuple #[eY (bR ls d now) b,.bool (bR ls d now).isSome]) (λ_=>ct g self ls):=
 Spec.ct λv xs hr=>⟨_,_,E7 w0 g self v xs (by rw[hr.length];have:=ok.short;omega) d now,λ_=>by
  have hl:=hr.look d now
  cases hf:rQ xs d now with
  |none=>
   rw[hf]at hl
   rw[<-hl]
   exact⟨(none,0,0),rfl,λZ=>aq.ct hr (aq.refl _)⟩
  |some p=>
   rw[hf]at hl
   rw[<-hl]
   exact⟨(p.2.1,(aQ p.1.before).length,p.2.2),rfl,λZ=>aq.ct hr (aq.refl _)⟩⟩
theorem sC (g self ls) (ok:aW ls) (d nb):Spec ucC w0 191 [ptr g 0,u32 d,u32 nb] (ct g self ls) (λ_:Unit=> .tuple #[]) (λ_=>ct g self (gF ls d nb)):=
 Spec.PG λv xs hr=>⟨_,_,Ba w0 g self v xs (by rw[hr.length];have:=ok.short;omega) (λp hp=>ok.before p.1 (hr.mem hp)) d nb,λx=>⟨(),rfl,λZ=>by rw[ad];exact aq.ct (hr.FK d nb x) (aq.refl _)⟩⟩
theorem PB (self) (l:List Rec) (hl:l.length<=100000) (v X) [hX:eX w0 X v Rec 3 Rec.cells l]:Spec ucC w0 94 [u32 self,v] X (λg:Nat=>ptr g 0) (λg=>ct g self (iV self (cC l))*X):=by
 refine(Fa w0 self l hl v X).zbB (aq.refl _) λx=>⟨x.1,rfl,?_⟩
 refine aq.ct (v:=x.2) (dc.new self l) (aq.tail _ ?_);have hb:∀(c:List Rec) (xs:List da),(∀p∈xs,Bw p)->∀p∈c.foldl (jJ self) xs,Bw p:=by
  intro c;induction c with
  |nil=>intro xs h;exact h
  |cons r c ih=>
   intro xs h;rw[Uq];refine ih _ λp hp=> ?_;unfold jJ at hp;split at hp
   ·rcases Lz.1 hp with hp|hp
    ·exact h p hp
    ·rw[Z1]at hp;subst hp;exact⟨rfl,rfl⟩
   ·exact h p hp
 have hk:∀xs:List da,(∀p∈xs,Bw p)->aq X (cQ xs*X):=by
  intro xs;induction xs with
  |nil=>intro _;exact aq.of_eq (aB).symm
  |cons p xs ih=>
   intro h;rw[pw,ad];exact(ih λq hq=>h q (G4 _ hq)).trans (aq.bare (h p (by simp)) _)
 exact hk _ (hb _ _ λp hp=>by cases hp)
end
section
open Go.RowKit
structure Sk where
 dest:UInt32
 bK:Int
 aU:Int
 due:UInt64
 set:Int
 out:Bool
structure RD where
 tb:Nat
 vr:Value
 vs:Value
 vw:Value
 vq:Value
 vt:Value
 vf:Value
 vc:Value
 vd:Value
 vh:Value
 seen:List (Rq×UInt64)
 wait:List (UInt32×cP)
 search:List Sk
 aP:List UInt64
 held:List Rec
def jM (x:Rq×UInt64):List Value:=[u32 x.1.src,u32 x.1.id,u64 x.2]
def skC (x:Sk):List Value:=[u32 x.dest,.int .i64 x.bK,.int .i64 x.aU,u64 x.due,.int .i64 x.set,.bool x.out]
instance:cY jM 3:=⟨λ_=>rfl⟩
instance:cY skC 6:=⟨λ_=>rfl⟩
theorem nr:∀z,∀c∈jM z,c.oneCell'=true:=by intro z c hc;simp[jM]at hc;rcases hc with rfl|rfl|rfl<;>rfl
theorem vY:∀z,∀c∈skC z,c.oneCell'=true:=by intro z c hc;simp[skC]at hc;rcases hc with rfl|rfl|rfl|rfl|rfl|rfl<;>rfl
def bN (s:Nd) (d:RD) (o:dS):List Value:=
 [u32 s.self,u32 s.seq,ptr d.tb 0,d.vr,u64 s.cd,d.vs,d.vw,d.vq,.int .i64 s.last,u32 s.ids,u32 s.ff,d.vt,u64 s.now,aZ o.ay,.bool o.replace,d.vf,d.vc,d.vd,d.vh,u32 s.own]
def cy (d:RD) (o:dS):af:=rows 48 2 dA d.vf o.aJ*(rows 70 2 dA d.vc o.cj*rows 166 1 lr d.vd o.dropped)
def cc (vs vw vq vt:Value) (sn:List (Rq×UInt64)) (wt:List (UInt32×cP)) (sk:List Sk) (st:List UInt64):af:=
 rows 312 3 jM vs sn*(rows 243 2 dA vw wt*(rows 210 6 skC vq sk*rows 24 1 eL vt st))
def bc (d:RD):af:=cc d.vs d.vw d.vq d.vt d.seen d.wait d.search d.aP
def cR (g:Nat) (s:Nd) (d:RD):af:=
 aK g 195 (bN s d s.out)*(rows 28 3 Rec.cells d.vr s.aI*(rows 28 3 Rec.cells d.vh d.held*(ct d.tb s.self s.ls*(cy d s.out*bc d))))
def gH (l:List Rec) (a q:UInt32):Bool:=l.any λh=>decide (h.addr=a)&&decide (q<=h.seq)
def Sk.of (x:Sr) (due:UInt64) (set:Int):Sk:=⟨x.dest,x.bK,x.aU,due,set,x.out⟩
structure TW where
 n:Nat
 ex:Option Int
 i0:Nat
def TW.next (W:TW):TW:={W with i0:=W.i0+5}
structure Twin (W:TW) (s:Nd) (d:RD):Prop where
 held:∀a q,gH d.held a q=true↔∃q',bX s.held a=some q'/\¬q'<q
 mY:og d.held
 kg:∀h∈d.held,h.own=false/\∃l∈s.ls,l.dest=h.addr
 seen:d.seen=s.order.map λq=>(q,seenAt s.seen q)
 o9:s.order.Nodup
 oz:∀q,q∉s.order->bX s.seen q=none
 o7:∀q∈s.order,q.src=s.self->q.id.toNat<=s.ids.toNat
 wait:∀dst,s.texts dst=(d.wait.filter λw=>decide (w.1=dst)).map (·.2)
 mL:d.wait.length<=W.n
 hP:d.search.length=s.bu.length
 search:∀(i:Nat) x y,s.bu[i]? =some x->d.search[i]? =some y->∃due set,y=Sk.of x due set/\(W.ex=some x.name\/(⟨due,set,x.name⟩:Tm)∈s.bI)
 jT:(s.bI.map (·.km)).Nodup
 Br:(s.bI.map (·.id)).Pairwise (·<·)
 fN:∀t∈s.bI,1<=t.id/\t.id<=s.last/\t.km<=s.names
 aP:s.aP=d.aP.drop (d.aP.length - 5)
 oA:d.aP.Pairwise λa b=>a.toNat<=b.toNat
 ns:∀t∈d.aP,t.toNat<=s.now.toNat
 nX:d.aP.length=s.ids.toNat
 DB:KN s.seen
 Bp:KN s.wait
 FP:∀t∈s.bI,W.ex≠some t.km
 oy:s.ids.toNat<=W.i0+dJ s.now s.aP
def qe (W:TW) (g:Nat) (s:Nd):af:=hex λd=>pure' (Twin W s d)*cR g s d
theorem aq.rn {W:TW} {g:Nat} {s:Nd} {d:RD} {H F:af} (t:Twin W s d) (h:aq H (cR g s d*F)):aq H (qe W g s*F):=
 aq.trans h (aq.trans (aq.ji t (aq.refl _)) (aq.trans (aq.of_eq (by ac_rfl)) (aq.qA (p:=λd=>pure' (Twin W s d)*cR g s d) d)))
theorem rz {P n w0 E D H F c Q W g s} (hl:Own H (qe W g s) F) (h:∀d,Twin W s d->WS P n w0 c Q ⟨E,D,cR g s d*F⟩):WS P n w0 c Q ⟨E,D,H⟩:=by
 rw[hl.eq];unfold qe;refine iU λx=> ?_;rw[ad];exact jR λhr=>h x hr
theorem kA {P n w0 E D H F ops l' Q W g s} (hl:Own H (qe W g s) F) (h:∀d,Twin W s d->LS P n w0 ops Q l' ⟨E,D,cR g s d*F⟩):LS P n w0 ops Q l' ⟨E,D,H⟩:=by
 rw[hl.eq];unfold qe;refine DD λx=> ?_;rw[ad];exact lH inferInstance λhr=>h x hr
structure Nd.Alike (s t:Nd):Prop where
 self:t.self=s.self
 held:t.held=s.held
 ls:∀l∈s.ls,∃l'∈t.ls,l'.dest=l.dest
 seen:t.seen=s.seen
 order:t.order=s.order
 ids:t.ids=s.ids
 wait:t.wait=s.wait
 bu:t.bu=s.bu
 bI:t.bI=s.bI
 last:t.last=s.last
 names:t.names=s.names
 aP:t.aP=s.aP
 now:t.now=s.now
theorem Twin.to {W:TW} {s t:Nd} {d e:RD} (h:Twin W s d) (k:s.Alike t) (h1:e.seen=d.seen) (h2:e.wait=d.wait) (h3:e.search=d.search) (h4:e.aP=d.aP) (h5:e.held=d.held):Twin W t e:=by
 obtain⟨a1,a2,a3,a4,a5,a6,a7,a8,a9,Sx,Sy,a12,WN,WO,WQ,WR,a17,WT,WU,a20,a21,a22⟩:=h;constructor
 ·rw[h5,k.held];exact a1
 ·rw[h5];exact a2
 ·rw[h5];intro x hx;obtain⟨l,hl,hd⟩:=(a3 x hx).2;obtain⟨l',ON,Ov⟩:=k.ls l hl;exact⟨(a3 x hx).1,l',ON,Ov.trans hd⟩
 ·rw[h1,k.order,k.seen];exact a4
 ·rw[k.order];exact a5
 ·rw[k.order,k.seen];exact a6
 ·rw[k.order,k.self,k.ids];exact a7
 ·rw[h2];intro dst;unfold Nd.texts;rw[k.wait];exact a8 dst
 ·rw[h2];exact a9
 ·rw[h3,k.bu];exact Sx
 ·rw[h3,k.bu,k.bI];exact Sy
 ·rw[k.bI];exact a12
 ·rw[k.bI];exact WN
 ·rw[k.bI,k.last,k.names];exact WO
 ·rw[h4,k.aP];exact WQ
 ·rw[h4];exact WR
 ·rw[h4,k.now];exact a17
 ·rw[h4,k.ids];exact WT
 ·rw[k.seen];exact WU
 ·rw[k.wait];exact a20
 ·rw[k.bI];exact a21
 ·rw[k.ids,k.now,k.aP];exact a22
theorem Nd.Alike.refl (s:Nd):s.Alike s:=⟨rfl,rfl,λl h=>⟨l,h,rfl⟩,rfl,rfl,rfl,rfl,rfl,rfl,rfl,rfl,rfl,rfl⟩
theorem oI {ls IF} (h:∀x∈aO ls,x∈aO IF):∀l∈ls,∃l'∈IF,l'.dest=l.dest:=λl hl=>by
 have:=h l.dest (YY hl);obtain⟨l',h1,h2⟩:=HC.1 this;exact⟨l',h1,h2⟩
theorem Nd.Alike.Yy {s:Nd} {ls} (h:∀x∈aO s.ls,x∈aO ls):s.Alike {s with ls:=ls}:=⟨rfl,rfl,oI h,rfl,rfl,rfl,rfl,rfl,rfl,rfl,rfl,rfl,rfl⟩
theorem Nd.Alike.MC (s:Nd) (o):s.Alike {s with out:=o}:=⟨rfl,rfl,λl h=>⟨l,h,rfl⟩,rfl,rfl,rfl,rfl,rfl,rfl,rfl,rfl,rfl,rfl⟩
end
section
def jv (now:UInt64) (l:List (Rq×UInt64)) (a b:UInt32):Bool:=l.any λx=>decide (x.1.src=a)&&(decide (x.1.id=b)&&decide (now<x.2))
def ml (now:UInt64) (l:List (Rq×UInt64)):List (Rq×UInt64):=l.filter λx=>decide (now<x.2)
def mK (l:List (Rq×UInt64)) (i:Nat):UInt64:=(l.getD i (⟨0,0⟩,0)).2
def jU (l:List (Rq×UInt64)) (k:Nat):Nat:=(List.range k).foldl (λi j=>if mK l j<mK l i then j else i) 0
theorem oP (l k):jU l (k+1)=if mK l k<mK l (jU l k)then k else jU l k:=by
 unfold jU;rw[ubU,uaL];rfl
theorem tG (l:List (Rq×UInt64)):∀k,k<=l.length->0<l.length->jU l k<l.length
 |0,_,h=>h
 |k+1,hk,h=>by
  have:=tG l k (by omega) h;rw[oP];split<;>omega
def dV (now:UInt64) (l:List (Rq×UInt64)) (r:Rq):List (Rq×UInt64):=ml now l++[(r,now+1280)]
def qR (now:UInt64) (l:List (Rq×UInt64)) (r:Rq):List (Rq×UInt64):=
 if(dV now l r).length<=16 then dV now l r else(dV now l r).take (jU (dV now l r) (dV now l r).length)++(dV now l r).drop (jU (dV now l r) (dV now l r).length+1)
def eK (m:List (Rq×UInt64)) (l:List Rq):List (Rq×UInt64):=l.map λq=>(q,seenAt m q)
theorem sL {m m' l} (h:∀q∈l,seenAt m' q=seenAt m q):eK m' l=eK m l:=Z8 λq hq=>by rw[h q hq]
theorem uj {m m' q} (h:bX m' q=bX m q):seenAt m' q=seenAt m q:=by unfold seenAt;rw[h]
theorem C9 (now) {m} (hm:KN m):∀{l:List Rq},l.Nodup->KN (dg now m l).1/\(dg now m l).2=l.filter (λq=>decide (now<seenAt m q))/\∀q,bX (dg now m l).1 q=if q∈l/\¬now<seenAt m q then none else bX m q:=by
 intro l;induction l using eE with
 |nil=>intro _;exact⟨hm,rfl,λq=>by rw[eQ (by simp)];rfl⟩
 |snoc l x ih=>
  intro hn;rw[Yw]at hn;obtain⟨h1,h2,h3⟩:=ih hn.1;have hx:x∉l:=λhx=>hn.2.2 x hx x (by simp) rfl;rw[oY];have hs:seenAt (dg now m l).1 x=seenAt m x:=uj (by rw[h3,eQ (λh=>hx h.1)]);unfold pO;rw[hs,uac];by_cases hc:now<seenAt m x
  ·rw[jF hc];refine⟨h1,?_,λq=> ?_⟩
   ·simp only;rw[h2];simp[hc]
   ·simp only;rw[h3];by_cases e:q=x
    ·subst e;rw[eQ (λh=>hx h.1),eQ (λh=>h.2 hc)]
    ·simp only[Lz,Z1,e,or_false]
  ·rw[eQ hc];refine⟨h1.gq x,?_,λq=> ?_⟩
   ·simp only;rw[h2];simp[hc]
   ·simp only;rw[nh h1];by_cases e:x=q
    ·subst e;rw[jF rfl,jF ⟨by simp,hc⟩]
    ·rw[eQ e,h3];simp only[Lz,Z1,uaT e,or_false]
theorem AD (now m) (l:List Rq):ml now (eK m l)=eK m (l.filter λq=>decide (now<seenAt m q)):=by
 unfold ml eK;rw[List.filter_map];rfl
theorem sR {m} {l:List Rq} {i} (h:i<l.length):mK (eK m l) i=seenAt m (l.getD i ⟨0,0⟩):=by
 unfold mK eK;simp[W9,h]
theorem rR {m:List (Rq×UInt64)} {l:List Rq}:∀k,k<=l.length->0<l.length->jU (eK m l) k=ib m l k
 |0,_,_=>rfl
 |k+1,hk,h=>by
  have hl:(eK m l).length=l.length:=by simp[eK]
  have h1:=tG (eK m l) k (by omega) (by omega);rw[oP,nM,sR (by omega),sR (by omega),rR k (by omega) h];rfl
section
variable {W:TW} {s:Nd} {d:RD}
theorem Twin.NO (h:Twin W s d):d.seen=eK s.seen s.order:=h.seen
theorem Twin.RI (h:Twin W s d) (a b):jv s.now d.seen a b=decide (s.now<seenAt s.seen ⟨a,b⟩):=by
 rw[h.NO];unfold jv eK;rw[List.any_map];by_cases hk:s.now<seenAt s.seen ⟨a,b⟩
 ·rw[Dp hk,ZV];have hm:(⟨a,b⟩:Rq)∈s.order:=by
   by_cases hm:(⟨a,b⟩:Rq)∈s.order
   ·exact hm
   ·have:=h.oz _ hm;unfold seenAt at hk;rw[this]at hk;exact absurd hk (UInt64.not_lt_zero)
  refine⟨_,hm,?_⟩;simp[hk]
 ·rw[EH hk,List.any_eq_false];rintro⟨x,y⟩ hq hc;simp only[Function.comp,Ps,ual]at hc;obtain⟨rfl,rfl,hc⟩:=hc;exact hk hc
theorem Twin.aT (h:Twin W s d) (r:Rq) (hr:¬s.now<seenAt s.seen r) (hid:r.src=s.self->r.id.toNat<=s.ids.toNat) (vs):Twin W (s.aT r) {d with vs:=vs,seen:=qR s.now d.seen r}:=by
 obtain⟨k1,k2,k3⟩:=C9 s.now h.DB h.o9;have Es:r∉(dg s.now s.seen s.order).2:=λhm=>by
  rw[k2]at hm;exact hr (by simpa using(uaf.1 hm).2)
 have xm:((dg s.now s.seen s.order).2++[r]).Nodup:=by
  rw[Yw];refine⟨?_,by simp,λa ha b hb=> ?_⟩
  ·rw[k2];exact h.o9.filter _
  ·simp at hb;subst hb;rintro rfl;exact Es ha
 have J0:KN (bY (dg s.now s.seen s.order).1 r (s.now+1280)):=k1.bY _ _;have l5:∀q,q≠r->bX (bY (dg s.now s.seen s.order).1 r (s.now+1280)) q=if q∈s.order/\¬s.now<seenAt s.seen q then none else bX s.seen q:=λq hq=>by
  rw[fo,eQ (uaT hq),k3]
 have Ra:∀q∈(dg s.now s.seen s.order).2,bX (bY (dg s.now s.seen s.order).1 r (s.now+1280)) q=bX s.seen q:=λq hq=>by
  rw[l5 q (λe=>Es (e▸hq)),eQ];rw[k2]at hq;exact λh=>h.2 (by simpa using(uaf.1 hq).2)
 have mZ:∀q,q∉(dg s.now s.seen s.order).2++[r]->bX (bY (dg s.now s.seen s.order).1 r (s.now+1280)) q=none:=λq hq=>by
  simp only[Lz,Z1,not_or]at hq;rw[l5 q hq.2];split
  ·rfl
  ·rename_i hc;refine h.oz q λhm=>hc ⟨hm,λbW=>hq.1 ?_⟩;rw[k2];exact uaf.2 ⟨hm,by simpa using bW⟩
 have Ef:dV s.now d.seen r=eK (bY (dg s.now s.seen s.order).1 r (s.now+1280)) ((dg s.now s.seen s.order).2++[r]):=by
  unfold dV;rw[h.NO,AD,<-k2];have e1:eK s.seen (dg s.now s.seen s.order).2=eK (bY (dg s.now s.seen s.order).1 r (s.now+1280)) (dg s.now s.seen s.order).2:=sL λq hq=>(uj (Ra q hq)).symm;have e2:seenAt (bY (dg s.now s.seen s.order).1 r (s.now+1280)) r=s.now+1280:=by
   unfold seenAt;rw[fo,jF rfl,CV]
  have e3:∀(m:List (Rq×UInt64)) (l:List Rq),eK m (l++[r])=eK m l++[(r,seenAt m r)]:=λm l=>by unfold eK;rw[EZ];rfl
  rw[e1,e3,e2]
 have ow:∀q∈(dg s.now s.seen s.order).2++[r],q.src=s.self->q.id.toNat<=s.ids.toNat:=λq hq hs=>by
  rcases Lz.1 hq with hq|hq
  ·rw[k2]at hq;exact h.o7 q (uaf.1 hq).1 hs
  ·simp at hq;subst hq;exact hid hs
 unfold Nd.aT;simp only;generalize hm:bY (dg s.now s.seen s.order).1 r (s.now+1280)=m at*
 generalize hl:(dg s.now s.seen s.order).2++[r]=l at*
 have hlen:(dV s.now d.seen r).length=l.length:=by rw[Ef];simp[eK]
 unfold qR;by_cases Om:l.length<=16
 ·rw[jF Om,jF (by rw[hlen];exact Om),Ef];exact⟨h.held,h.mY,h.kg,rfl,xm,mZ,ow,h.wait,h.mL,h.hP,h.search,h.jT,h.Br,h.fN,h.aP,h.oA,h.ns,h.nX,J0,h.Bp,h.FP,h.oy⟩
 ·rw[eQ Om,eQ (by rw[hlen];exact Om),Ef];have En:0<l.length:=by omega
  have Lw:(eK m l).length=l.length:=by simp[eK]
  rw[Lw,rR l.length (uL _) En];have bW:=nL m l l.length (uL _) En;generalize ib m l l.length=i at*
  have hg:l.getD i ⟨0,0⟩=l[i]:=by simp[W9,bW]
  have Ow:l=l.take i++l[i]::l.drop (i+1):=by
   conv=>lhs;rw[<-Jt i l,Sb bW]
  have Np:(l.take i++l.drop (i+1)).Sublist l:=by
   conv=>rhs;rw[Ow]
   exact List.Sublist.append (ubb _) (ucf _ _)
  have Uu:l[i]∉l.take i++l.drop (i+1):=λhx=>by
   rw[Ow]at xm;rw[Yw]at xm;obtain⟨n1,n2,n3⟩:=xm;rw[uaA]at n2;rcases Lz.1 hx with hx|hx
   ·exact n3 _ hx _ WY rfl
   ·exact n2.1 hx
  refine⟨h.held,h.mY,h.kg,?_,xm.sublist Np,λq hq=> ?_,λq hq=>ow q (Np.subset hq),h.wait,h.mL,h.hP,h.search,h.jT,h.Br,h.fN,h.aP,h.oA,h.ns,h.nX,J0.gq _,h.Bp,h.FP,h.oy⟩
  ·show(eK m l).take i++(eK m l).drop (i+1)=eK (gq m (l.getD i ⟨0,0⟩)) (l.take i++l.drop (i+1));rw[sL (m:=m) (m':=gq m (l.getD i ⟨0,0⟩)) (λq hq=>uj (by rw[nh J0,hg,eQ (λe=>Uu (by rw[e];exact hq))]))];unfold eK;rw[EZ,List.map_take,List.map_drop]
  ·show bX (gq m (l.getD i ⟨0,0⟩)) q=none;rw[nh J0,hg];split
   ·rfl
   ·rename_i mi;refine mZ q λhm=>hq ?_;rw[Ow]at hm;rcases Lz.1 hm with hm|hm
    ·exact ubM _ hm
    ·rcases JA.1 hm with hm|hm
     ·exact absurd hm.symm mi
     ·exact ubG _ hm
end
end
section
open Go.RowKit
theorem vp (l:List Rec) (k) (r:Rec) (h:l[k]? =some r):b9 (l.take (k+1))=b9 (l.take k)++r.bytes:=by
 rw[AP,h];simp[b9]
theorem KS (l:List Rec) (k):(b9 (l.take k)).length<=13*l.length:=by
 rw[nT,Aw];omega
attribute [local irreducible] WS LS OpQ y6 cn cv Spec bA aK di cq
variable (w0:World)
theorem qq (l:List Rec) (hl:l.length<=10000) (v X) [hX:eX w0 X v Rec 3 Rec.cells l]:Spec ucC w0 95 [v] X (λ_:Unit=>aZ (b9 l)) (λ_=>X):=by
 refine eZ Tryz.func95 Tryz.ntmps95 λG=> ?_;simp only[aN];repeat' (first|intro K hK|refine ax ?_)
 refine aV (λkk τ=>∃(i:Nat),i+kk=l.length/\τ=⟨[(4,.int .i64 (i:Int)),(3,aZ (b9 (l.take i))),(0,v)],[],X*G⟩) ?_ ?_
 ·exact pa2
 ·rintro kk τ ⟨i,qE,rfl⟩;rcases jP i l.length with h|h
  ·have h1:(i:Int)<(l.length:Int):=by omega
   obtain⟨r,hr⟩:∃r,l[i]? =some r:=⟨_,aX h⟩
   have p1:=mz w0 r;have hs:=vp l i r hr;have hb:=KS l i;have FT:=Rec.dz r;simp only[Rec.cells]at p1;repeat' (first|intro hc|refine xyZ ?_|refine aF ?_ ?_|((refine' LQ ?zh rfl ?_);case zh=>intro F';exact kP rfl rfl (by first|omega|(simp[al]<;>omega)))|refine cZ p1 λu1=> ?_)
   exact⟨kk - 1,_,by omega,⟨i+1,by omega,rfl⟩,⟨rfl,by rw[hs];rfl,rfl,trivial⟩,rfl,ah⟩
  ·have h1:¬(i:Int)<(l.length:Int):=by omega
   rw[Gz h];exact pac
theorem uh (gn) (s:Nd) (d:RD) (a b) (hl:d.seen.length<=10000):Spec ucC w0 185 [ptr gn 0,u32 a,u32 b] (cR gn s d) (λ_:Unit=> .bool (jv s.now d.seen a b)) (λ_=>cR gn s d):=by
 refine eZ Tryz.func185 Tryz.ntmps185 λG=> ?_;unfold cR bc cc;simp only[aN,bN,ad];repeat' (first|intro K hK|refine ax ?_)
 refine aV (λkk τ=>∃(i:Nat),i+kk=d.seen.length/\jv s.now d.seen a b=jv s.now (d.seen.drop i) a b/\τ=⟨[(7,.int .i64 (i:Int)),(2,u32 b),(1,u32 a),(0,ptr gn 0)],[],aK gn 195 (bN s d s.out)*(rows 312 3 jM d.vs d.seen*(rows 28 3 Rec.cells d.vr s.aI*(rows 28 3 Rec.cells d.vh d.held*(ct d.tb s.self s.ls*(cy d s.out*(rows 243 2 dA d.vw d.wait*(rows 210 6 skC d.vq d.search*(rows 24 1 eL d.vt d.aP*G))))))))⟩) ?_ ?_
 ·exact⟨d.seen.length,_,⟨0,by omega,rfl,rfl⟩,cG,rfl,by simp only[bN];exact ah⟩
 ·rintro kk τ ⟨i,qE,hk,rfl⟩;simp only[bN];rcases jP i d.seen.length with h|h
  ·have h1:(i:Int)<(d.seen.length:Int):=by omega
   obtain⟨z,hz⟩:∃z,d.seen[i]? =some z:=⟨_,aX h⟩
   have hd:d.seen.drop i=z::d.seen.drop (i+1):=by
    obtain⟨h2,h3⟩:=az.1 hz;rw[Sb h2,h3]
   have vS:jv s.now d.seen a b=((decide (z.1.src=a)&&(decide (z.1.id=b)&&decide (s.now<z.2)))||jv s.now (d.seen.drop (i+1)) a b):=by
    rw[hk,hd];rfl
   by_cases h2:z.1.src=a
   ·by_cases h3:z.1.id=b
    ·by_cases h4:s.now<z.2
     ·have FY:jv s.now d.seen a b=true:=by rw[vS,Dp h2,Dp h3,Dp h4];rfl
      rw[FY];repeat' (first|refine ag (id:=4) (.range 37) ?_|intro hc|refine xyZ ?_|refine aF ?_ ?_)
      exact aC (.inl rfl) rfl rfl ⟨(),rfl,ah⟩
     ·have FY:jv s.now d.seen a b=jv s.now (d.seen.drop (i+1)) a b:=by rw[vS,EH h4,uaR,uaR,uaI]
      exact pax
    ·have FY:jv s.now d.seen a b=jv s.now (d.seen.drop (i+1)) a b:=by rw[vS,EH h3,uan,uaR,uaI]
     exact pax
   ·have FY:jv s.now d.seen a b=jv s.now (d.seen.drop (i+1)) a b:=by rw[vS,EH h2,uan,uaI]
    exact pax
  ·have h1:¬(i:Int)<(d.seen.length:Int):=by omega
   have FY:jv s.now d.seen a b=false:=by rw[hk,ubv h];rfl
   rw[FY];repeat' (first|intro hc|refine xyZ ?_|refine aF ?_ ?_)
   exact aC (.inl rfl) rfl rfl ⟨(),by rw[FY],ah⟩
end
end Go.Proofs.YtapoehkdnglahabGreat
