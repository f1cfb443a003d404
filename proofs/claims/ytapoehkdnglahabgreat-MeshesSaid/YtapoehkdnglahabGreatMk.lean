/- A part. -/
import Derived.Test.YtapoehkdnglahabGreatMh
import Derived.Test.YtapoehkdnglahabGreatMi
import Derived.Test.YtapoehkdnglahabGreatMj
set_option maxHeartbeats 8000000
set_option maxRecDepth 100000
set_option linter.all false
namespace Go.Proofs.YtapoehkdnglahabGreat
section
open Go.RowKit
def uw (bs:List (Nat×Nat)) (ls:List Ln) (d:UInt32):Nat:=(bX (lmap bs ls) d).getD 0
theorem tS {bs:List (Nat×Nat)} {ls:List Ln} {d} (hlen:bs.length=ls.length) (hd:d∈aO ls):bX (lmap bs ls) d=some (uw bs ls d):=by
 unfold uw;cases h:bX (lmap bs ls) d with
 |none=>exact absurd (by rw[nf hlen];exact hd) ((mG _ d).1 h)
 |some b=>rfl
theorem pI {l d}:d∈aQ l↔d∈l:=(Z6 l _).mem_iff
theorem cF (l:List UInt32):(aQ l).length=l.length:=(Z6 l _).length_eq
def tj (nb:UInt32) (pre:List UInt32) (ls:List Ln):List Ln:=ls.map λl=>if l.dest∈pre then l.brk nb else l
def nH (nb:UInt32) (ls:List Ln):List Ln:=ls.map (Ln.brk nb)
def jh (nb:UInt32) (pre:List UInt32) (ls:List Ln):List (UInt32×UInt32):=pre.filterMap λd=>match dG ls d with
 |some l=>if l.valid=true/\l.next=nb/\0<l.before.length then some (l.dest,(l.ended 0).seq)else none
 |none=>none
theorem Jq (nb ls):tj nb [] ls=ls:=by simp[tj]
theorem Jp (nb ls):tj nb (aQ (aO ls)) ls=nH nb ls:=by
 apply Z8;intro l hl;have:l.dest∈aQ (aO ls):=pI.2 (HC.2 ⟨l,hl,rfl⟩);rw[jF this]
theorem Jr (nb) (l:Ln):(l.brk nb).dest=l.dest:=by unfold Ln.brk;split<;>rfl
theorem GW (nb bs ls):lmap bs (nH nb ls)=lmap bs ls:=by
 apply zD;intro j;simp only[lmap,nH,Zp,zA];cases bs[j]? <;>cases ls[j]? <;>simp[Jr]
theorem Js {nb:UInt32} {pre:List UInt32} {ls:List Ln} {j:Nat} {d:UInt32} {l:Ln} (hn:(aO ls).Nodup) (hl:ls[j]? =some l) (hd:l.dest=d) (hp:d∉pre):
 (tj nb pre ls)[j]? =some l/\(tj nb pre ls).set j (l.brk nb)=tj nb (pre++[d]) ls:=by
 refine⟨by simp only[tj,zA,hl,EL];rw[eQ (hd▸hp)],?_⟩
 apply zD
 intro m
 have bW:=(az.1 hl).1
 rw[Dg]
 simp only[tj,zA,Hu]
 by_cases e:j=m
 ·subst e
  rw[jF rfl,jF bW,hl,EL,jF (by simp[hd])]
 ·rw[eQ e]
  cases hm:ls[m]? with
  |none=>rfl
  |some x=>
   simp only[EL]
   have mi:x.dest≠d:=λhx=>e (by
    have h1:=iB hn hl
    have h2:=iB hn hm
    rw[hd]at h1;rw[hx,h1]at h2;exact PL h2)
   congr 1
   by_cases hx:x.dest∈pre
   ·rw[jF hx,jF (by simp[hx])]
   ·rw[eQ hx,eQ (by simp[hx,mi])]
attribute [local irreducible] WS LS OpQ y6 cn cv Spec bA aK
variable (w0:World)
theorem sa (gt r self) (bs:List (Nat×Nat)) (ls:List Ln) (hlen:bs.length=ls.length) (Ol:ls.length<=12):
 M1 ucC w0 122 [ptr gt 0] [] (aK gt 216 [u32 self,.map (some r)]*mp u32 gw r (lmap bs ls)) (λd=>[ptr (uw bs ls d) 0]) (λxs=>xs=aQ (aO ls)):=by
 intro l J Jx hY
 have JZ:=Cv w0 r
 have hs:∀gk,Spec ucC w0 181 [.func (.func 218) #[] [ptr gk 0].toArray] (aK gk 214 [.map (some r)]*mp u32 gw r (lmap bs ls)) (λp:Value×(l:List UInt32)×nz l=>p.1) (λp=>pure' (p.2.1.Perm ((lmap bs ls).map (·.1)))*(rows 26 1 cA p.1 p.2.2.l'*(aK gk 214 [.map (some r)]*mp u32 gw r (lmap bs ls)))):=λgk=>
  qt w0 iI (Ez w0 (lmap bs ls) r gk) (λxs hx=>by have:=hx.length_eq;rw[nf hlen]at this;simp[aO]at this;omega)
 refine eZ Tryz.func122 Tryz.ntmps122 λG=> ?_
 simp only[YW,zF,aN]
 repeat' (first|intro K hK|refine ax ?_|refine cZ JZ λgk=> ?_|(refine ai (aa iI rfl (hs gk) iI) rfl ?_;rintro⟨vk,l0,sk⟩;refine lH iI λhp=> ?_;dsimp only))
 have qZ:l0.Perm (aO ls):=by rw[<-nf hlen];exact hp
 have S3:=sK qZ sk
 rw[S3]
 have Ly:=cF (aO ls)
 have El:(aO ls).length=ls.length:=by simp[aO]
 have xk:∀d∈aQ (aO ls),bX (lmap bs ls) d=some (uw bs ls d):=λd hd=>tS hlen (pI.1 hd)
 generalize ta:aQ (aO ls)=xs at*
 refine aV (λk τ=>∃j:Nat,j+k=xs.length/\τ=⟨[(13,.int .i64 (j:Int)),(12,.int .i64 (xs.length:Int)),(11,vk),(0,ptr gt 0),(1,mM l)],[],rows 26 1 cA vk xs*(J (xs.take j)*(aK gt 216 [u32 self,.map (some r)]*(mp u32 gw r (lmap bs ls)*G)))⟩) ?_ ?_
 ·exact⟨xs.length,_,⟨0,by omega,rfl⟩,cG,rfl,by rw[uai];exact ah⟩
 ·rintro k τ ⟨j,ym,rfl⟩
  rcases jP j xs.length with bW|kQ
  ·obtain⟨d,hz⟩:∃z,xs[j]? =some z:=⟨_,aX bW⟩
   have hg:=xk d (jq hz)
   have gK:xs.take j++[d]=xs.take (j+1):=by rw[AP,hz,Qf]
   have Ns:=hY (xs.take j) d ⟨xs,rfl,by rw[gK];exact List.take_prefix _ _⟩
   rw[gK]at Ns
   repeat' (first|intro hc|refine xyZ ?_|refine aF ?_ ?_|refine zg0 ?_|(refine LL (vD rfl rfl rfl Ns) iI rfl ?_;rintro(_|_)<;>simp only[Zo,Yv]))
   ·exact aj (.inl rfl) rfl ⟨(xs.take (j+1),false),rfl,by simp only[Yv];exact ah⟩
   ·exact⟨k - 1,_,by omega,⟨j+1,by omega,rfl⟩,cG,rfl,ah⟩
  ·obtain rfl:j=xs.length:=by omega
   rw[PE]
   repeat' (first|intro hc|refine xyZ ?_|refine aF ?_ ?_)
   refine aj (.inr rfl) rfl ⟨(xs,true),rfl,?_⟩
   simp only[Zo]
   rw[ad (pure' _)]
   exact aq.ji trivial (ah)
theorem An (gt r self) (bs:List (Nat×Nat)) (ls:List Ln) (hlen:bs.length=ls.length) (hn:(aO ls).Nodup) (Ol:ls.length<=12) (nb):
 Spec ucC w0 194 [ptr gt 0,u32 nb] (dO gt r self bs ls) (λv:Value=>v) (λv=>rows 180 2 bB v (jh nb (aQ (aO ls)) ls)*dO gt r self bs (nH nb ls)):=by
 have it:=sa w0 gt r self bs ls hlen Ol
 have Uw:(aQ (aO ls)).Nodup:=((Z6 (aO ls) _).nodup_iff).2 hn
 refine Spec.jr Tryz.func194 rfl Tryz.ntmps194 rfl λG=> ?_
 simp only[aN,dO]
 repeat' (first|(refine hK _ ?_;clear hK K)|refine ab λK hK=> ?_|refine ax ?_|refine bT λg=> ?_)
 rename_i g3
 revert g;intro g5
 refine cV (aq.nil _ 180 2 bB none) ?_
 refine cV (H':=(aK gt 216 [u32 self,.map (some r)]*mp u32 gw r (lmap bs ls))*((hex λv=>aK g5 42 [v]*(rows 180 2 bB v (jh nb [] ls)*(aK g3 26 [u32 nb]*dN bs (tj nb [] ls))))*G)) (aq.trans (F:=(hex λv=>aK g5 42 [v]*(rows 180 2 bB v (jh nb [] ls)*(aK g3 26 [u32 nb]*dN bs (tj nb [] ls))))*((aK gt 216 [u32 self,.map (some r)]*mp u32 gw r (lmap bs ls))*G)) (aq.mX (p:=λv=>aK g5 42 [v]*(rows 180 2 bB v (jh nb [] ls)*(aK g3 26 [u32 nb]*dN bs (tj nb [] ls)))) (Value.slice none 0 0) (by rw[Jq];simp only[jh,ub1];exact ah)) (ah)) ?_
 refine mB (fb:=[ptr gt 0]) rfl rfl iI it rfl (λ_=>rfl) (λpre=>hex λv=>aK g5 42 [v]*(rows 180 2 bB v (jh nb pre ls)*(aK g3 26 [u32 nb]*dN bs (tj nb pre ls)))) (λ_ _=>pure' False) rfl ?_ ?_ ?_
 ·rintro l pre d R ⟨xs,rfl,Lt⟩
  have QX:d∈aO ls:=pI.1 (Lt.subset (by simp))
  have Mn:pre.length+1<=12:=by
   have:=Lt.length_le;rw[cF]at this;simp[aO]at this;omega
  have Xy:d∉pre:=by
   have h1:=Lt.sublist.nodup Uw;rw[Yw]at h1;exact λh=>h1.2.2 d h d (by simp) rfl
  have Ur:=tS hlen QX
  obtain⟨j,rb,x,hx,QN,Lx⟩:=xy (by obtain⟨i,_,hi⟩:=tT Ur;exact jq hi)
  obtain⟨l5,jf⟩:=Js (nb:=nb) hn hx Lx Xy
  obtain⟨F,h1,h2⟩:=kK QN l5
  have h3:=h2 (x.brk nb)
  rw[jf]at h3
  have OB:dG ls d=some x:=eO (Lx▸iB hn hx) hx
  have Ri:(jh nb pre ls).length<=pre.length:=uaD _ _
  have Ce:=w4 w0 (uw bs ls d) rb x 0
  have yl:=mg x.before
  generalize uw bs ls d=b at*
  refine iU λv=> ?_
  rw[h1]
  simp only[lu,cU,yU]at Ce ⊢
  repeat' (refine ax ?_)
  refine vI rfl (aK g5 42 [v]*(rows 180 2 bB v (jh nb pre ls)*(aK g3 26 [u32 nb]*(aK b 230 (cU x rb)*(mp u32 jO rb (kc x.before)*F))))) (by simp only[cU];exact ah) λR'=> ?_
  simp only[cU]
  by_cases c1:x.valid=true/\x.next=nb
  ·obtain⟨c1,c2⟩:=c1
   have QO:x.brk nb=x.ended 0:=by simp[Ln.brk,c1,c2]
   rw[QO]at h3
   rw[c1]at Ce ⊢
   by_cases c3:0<x.before.length
   ·have ho:jh nb (pre++[d]) ls=jh nb pre ls++[(x.dest,(x.ended 0).seq)]:=by simp[jh,OB,c1,c2,c3,Lx]
    repeat' (first|(refine hK _ ?_;clear hK K)|refine ag (id:=4) (.range 14) ?_|refine ae (id:=8) (.range 15) 13 [0,5,10] ?_|refine zaN (id:=8) 5 6 (.range 15) 14 [0] ?_|refine ab λK hK=> ?_|refine ax ?_|(refine aF ?_ ?_<;>intro hc<;>try exact aG)|refine bQ λg=> ?_|refine cZ Ce λu=> ?_|(refine aD (au bB [(x.dest,(x.ended 0).seq)] iI iI iI rfl rfl rfl rfl rfl iI rfl rfl rfl) rfl rfl rfl ?_;intro vs)|(refine aD (aR rfl rfl iI iI rfl iI iI lA (by first|omega|(simp[al]<;>omega)) rfl) rfl rfl rfl ?_;intro va))
    show aq _ ((hex _)*R')
    refine aq.mX va ?_
    rw[ho,h3]
    simp only[lu,cU]
    exact ah
   ·have ho:jh nb (pre++[d]) ls=jh nb pre ls:=by simp[jh,OB,c3]
    repeat' (first|(refine hK _ ?_;clear hK K)|refine ag (id:=4) (.range 14) ?_|refine ab λK hK=> ?_|refine ax ?_|(refine aF ?_ ?_<;>intro hc<;>try exact aG)|refine cZ Ce λu=> ?_)
    show aq _ ((hex _)*R')
    refine aq.mX v ?_
    rw[ho,h3]
    simp only[lu,cU]
    exact ah
  ·have QO:x.brk nb=x:=by unfold Ln.brk;rw[eQ c1]
   rw[QO]at h3
   have ho:jh nb (pre++[d]) ls=jh nb pre ls:=by
    have:¬(x.valid=true/\x.next=nb/\0<x.before.length):=λh=>c1 ⟨h.1,h.2.1⟩;simp only[jh,ucp,uaY,ub1,OB,eQ this,rL]
   by_cases c2:x.valid=true
   ·have c3:¬x.next=nb:=λh=>c1 ⟨c2,h⟩
    rw[c2]
    repeat' (first|(refine hK _ ?_;clear hK K)|refine ag (id:=4) (.range 14) ?_|refine ab λK hK=> ?_|refine ax ?_|(refine aF ?_ ?_<;>intro hc<;>try exact aG))
    show aq _ ((hex _)*R')
    refine aq.mX v ?_
    rw[ho,h3]
    simp only[lu,cU,c2]
    exact ah
   ·have VA:x.valid=false:=by simpa using c2
    rw[VA]
    repeat' (first|(refine hK _ ?_;clear hK K)|refine ag (id:=4) (.range 14) ?_|refine ab λK hK=> ?_|refine ax ?_|(refine aF ?_ ?_<;>intro hc<;>try exact aG))
    show aq _ ((hex _)*R')
    refine aq.mX v ?_
    rw[ho,h3]
    simp only[lu,cU,VA]
    exact ah
 ·intro b xs ta
  subst ta
  refine hK _ ?_
  refine cV (H':=(hex λv=>aK g5 42 [v]*(rows 180 2 bB v (jh nb (aQ (aO ls)) ls)*(aK g3 26 [u32 nb]*dN bs (tj nb (aQ (aO ls)) ls))))*(pW b*((aK gt 216 [u32 self,.map (some r)]*mp u32 gw r (lmap bs ls))*G))) (ah) ?_
  refine iU λv=> ?_
  rw[Jp]
  repeat' (first|(refine hK _ ?_;clear hK K)|refine ab λK hK=> ?_|refine ax ?_)
  refine zcc ?_
  refine vU (λh=>by cases h) iI ?_
  refine zbu rfl (bh rfl) ⟨v,rfl,?_⟩
  rw[GW]
  exact ah
 ·intro b c pre
  exact jR (φ:=False) λh=>h.elim
def cE (ls:List Ln):List Ln:=(aQ (aO ls)).filterMap (dG ls)
abbrev da:=Ln×(Option Addr×Nat)
def bJ (p:da):List Value:=bM p.1 (il p.1 p.2)
instance:cY bJ 7:=⟨λ_=>rfl⟩
theorem nW:∀z,∀c∈bJ z,c.oneCell'=true:=by
 intro z c hc;simp[bJ,bM]at hc;rcases hc with rfl|rfl|rfl|rfl|rfl|rfl|rfl<;>rfl
def cQ:List da->af
 |[]=>emp
 |p::r=>rows 26 1 cA (il p.1 p.2) (aQ p.1.before)*cQ r
theorem yT:∀(ps:List da) (p:da),cQ (ps++[p])=rows 26 1 cA (il p.1 p.2) (aQ p.1.before)*cQ ps
 |[],p=>rfl
 |q::ps,p=>by
  show _*cQ (ps++[p])=_;rw[yT ps p,aM];rfl
theorem EE (gt r self) (bs:List (Nat×Nat)) (ls:List Ln) (hlen:bs.length=ls.length) (hn:(aO ls).Nodup) (Ol:ls.length<=12) (hb:∀l∈ls,l.before.length<=12):
 Spec ucC w0 75 [ptr gt 0] (dO gt r self bs ls) (λx:Value×List da=>x.1) (λx=>pure' (x.2.map (·.1)=cE ls)*(rows 53 7 bJ x.1 x.2*(cQ x.2*dO gt r self bs ls))):=by
 have it:=sa w0 gt r self bs ls hlen Ol
 refine Spec.jr Tryz.func75 rfl Tryz.ntmps75 rfl λG=> ?_
 simp only[aN,dO]
 repeat' (first|(refine hK _ ?_;clear hK K)|refine ab λK hK=> ?_|refine ax ?_|refine bT λg=> ?_)
 revert g;intro g3
 refine cV (aq.nil _ 53 7 bJ none) ?_
 refine cV (H':=(aK gt 216 [u32 self,.map (some r)]*mp u32 gw r (lmap bs ls))*((hex λx:Value×List da=>pure' (x.2.map (·.1)=([]:List UInt32).filterMap (dG ls))*(aK g3 49 [x.1]*(rows 53 7 bJ x.1 x.2*(cQ x.2*dN bs ls))))*G)) (aq.trans (F:=(hex λx:Value×List da=>pure' (x.2.map (·.1)=([]:List UInt32).filterMap (dG ls))*(aK g3 49 [x.1]*(rows 53 7 bJ x.1 x.2*(cQ x.2*dN bs ls))))*((aK gt 216 [u32 self,.map (some r)]*mp u32 gw r (lmap bs ls))*G)) (aq.mX (p:=λx:Value×List da=>pure' (x.2.map (·.1)=([]:List UInt32).filterMap (dG ls))*(aK g3 49 [x.1]*(rows 53 7 bJ x.1 x.2*(cQ x.2*dN bs ls)))) (Value.slice none 0 0,[]) (by rw[ad (pure' _)];refine aq.ji rfl ?_;simp only[cQ];exact ah)) (ah)) ?_
 refine mB (fb:=[ptr gt 0]) rfl rfl iI it rfl (λ_=>rfl) (λpre=>hex λx:Value×List da=>pure' (x.2.map (·.1)=pre.filterMap (dG ls))*(aK g3 49 [x.1]*(rows 53 7 bJ x.1 x.2*(cQ x.2*dN bs ls)))) (λ_ _=>pure' False) rfl ?_ ?_ ?_
 ·rintro l pre d R ⟨xs,rfl,Lt⟩
  have QX:d∈aO ls:=pI.1 (Lt.subset (by simp))
  have Mn:pre.length+1<=12:=by
   have:=Lt.length_le;rw[cF]at this;simp[aO]at this;omega
  have Ur:=tS hlen QX
  obtain⟨j,rb,x,hx,QN,Lx⟩:=xy (by obtain⟨i,_,hi⟩:=tT Ur;exact jq hi)
  obtain⟨F,h1,h2⟩:=kK QN hx
  have OB:dG ls d=some x:=eO (Lx▸iB hn hx) hx
  have PY:=uy w0 (uw bs ls d) rb x (hb x (jq hx))
  generalize uw bs ls d=b at*
  refine iU λy=> ?_
  rw[ad (pure' _)]
  refine jR λhy=> ?_
  obtain⟨v,ps⟩:=y
  have Mo:ps.length<=12:=by
   have e1:=G2 List.length hy;have e2:=uaD (dG ls) pre;simp at e1;omega
  rw[h1]
  simp only[lu,cU,yU]at PY ⊢
  repeat' (refine ax ?_)
  refine vI rfl (aK g3 49 [v]*(rows 53 7 bJ v ps*(cQ ps*(aK b 230 (cU x rb)*(mp u32 jO rb (kc x.before)*F))))) (by simp only[cU];exact ah) λR'=> ?_
  simp only[cU]
  repeat' (first|refine ae (id:=4) (.range 6) 2 [0] ?_|refine cK (id:=4) 3 (.range 6) 5 [0] ?_|refine ax ?_|refine bQ λg=> ?_|refine cZ PY λp=> ?_|(refine aD (au bJ [(x,p)] iI iI iI rfl rfl rfl rfl rfl iI rfl rfl rfl) rfl rfl rfl ?_;intro vs)|(refine aD (aR rfl rfl iI iI rfl iI iI nW (by first|omega|(simp[al]<;>omega)) rfl) rfl rfl rfl ?_;intro va))
  show aq _ ((hex _)*R')
  refine aq.mX (va,ps++[(x,p)]) ?_
  rw[ad (pure' _)]
  refine aq.ji (by rw[EZ,ucp];simp only[Hh,Xp,uaY,ub1,OB];simp only at hy;rw[hy]) ?_
  dsimp only
  rw[yT]
  simp only[lu,cU]
  exact ah
 ·intro b xs ta
  subst ta
  refine hK _ ?_
  refine cV (H':=(hex λx:Value×List da=>pure' (x.2.map (·.1)=(aQ (aO ls)).filterMap (dG ls))*(aK g3 49 [x.1]*(rows 53 7 bJ x.1 x.2*(cQ x.2*dN bs ls))))*(pW b*((aK gt 216 [u32 self,.map (some r)]*mp u32 gw r (lmap bs ls))*G))) (ah) ?_
  refine iU λy=> ?_
  rw[ad (pure' _)]
  refine jR λhy=> ?_
  obtain⟨v,ps⟩:=y
  repeat' (first|(refine hK _ ?_;clear hK K)|refine ab λK hK=> ?_|refine ax ?_)
  refine zcc ?_
  refine vU (λh=>by cases h) iI ?_
  refine zbu rfl (bh rfl) ⟨(v,ps),rfl,?_⟩
  rw[ad (pure' _)]
  refine aq.ji hy ?_
  exact ah
 ·intro b c pre
  exact jR (φ:=False) λh=>h.elim
end
section
open Go.RowKit
abbrev cP:=List UInt8
structure Rq where
 src:UInt32
 id:UInt32
deriving DecidableEq
structure Sr where
 dest:UInt32
 bK:Int
 aU:Int
 out:Bool
 name:Int
structure dS where
 ay:cP
 replace:Bool
 aJ:List (UInt32×cP)
 cj:List (UInt32×cP)
 dropped:List Int
def dS.zero:dS:=⟨[],false,[],[],[]⟩
structure Nd where
 self:UInt32
 seq:UInt32
 ls:List Ln
 aI:List Rec
 own:UInt32
 held:List (UInt32×UInt32)
 cd:UInt64
 seen:List (Rq×UInt64)
 order:List Rq
 wait:List (UInt32×List cP)
 bu:List Sr
 bI:List Tm
 last:Int
 names:Int
 ids:UInt32
 ff:UInt32
 aP:List UInt64
 now:UInt64
 out:dS
structure NH where
 tb:Nat
 vr:Value
 rh:Nat
 rs:Nat
 vo:Value
 rw:Nat
 rq:Nat
 ri:Nat
 cb:Nat
 cr:Nat
 vs:Value
 vf:Value
 vc:Value
 vd:Value
 sb:List Nat
 wv:List (Option Addr×Nat×Nat)
def sE (r:Rq):List Value:=[u32 r.src,u32 r.id]
@[reducible] def Bt (r:Rq):Value:= .agg (sE r).toArray
def eL (x:UInt64):List Value:=[u64 x]
def jk (s:cP):List Value:=[aZ s]
def dA (x:UInt32×cP):List Value:=[u32 x.1,aZ x.2]
def lr (x:Int):List Value:=[.int .i64 x]
instance:cY sE 2:=⟨λ_=>rfl⟩
instance:cY eL 1:=⟨λ_=>rfl⟩
instance:cY jk 1:=⟨λ_=>rfl⟩
instance:cY dA 2:=⟨λ_=>rfl⟩
instance:cY lr 1:=⟨λ_=>rfl⟩
theorem vX:∀z,∀c∈sE z,c.oneCell'=true:=by intro z c hc;simp[sE]at hc;rcases hc with rfl|rfl<;>rfl
theorem qX:∀z,∀c∈eL z,c.oneCell'=true:=by intro z c hc;simp[eL]at hc;subst hc;rfl
theorem zU:∀z,∀c∈jk z,c.oneCell'=true:=by intro z c hc;simp[jk]at hc;subst hc;rfl
theorem gU:∀z,∀c∈dA z,c.oneCell'=true:=by intro z c hc;simp[dA]at hc;rcases hc with rfl|rfl<;>rfl
theorem Co:∀z,∀c∈lr z,c.oneCell'=true:=by intro z c hc;simp[lr]at hc;subst hc;rfl
@[reducible] def cT (v:Option Addr×Nat×Nat):Value:= .slice v.1 v.2.1 v.2.2
def n5:List (Option Addr×Nat×Nat)->List (UInt32×List cP)->af
 |v::vs,w::ws=>rows 9 1 jk (cT v) w.2*n5 vs ws
 |_,_=>emp
def jA (vs:List (Option Addr×Nat×Nat)) (ws:List (UInt32×List cP)):List (UInt32×(Option Addr×Nat×Nat)):=List.zipWith (λv w=>(w.1,v)) vs ws
def mA (r:Nat) (vs:List (Option Addr×Nat×Nat)) (ws:List (UInt32×List cP)):af:=pure' (vs.length=ws.length)*(mp u32 cT r (jA vs ws)*n5 vs ws)
def oB (g b:Nat) (s:Sr):List Value:=[u32 s.dest,.int .i64 s.bK,.int .i64 s.aU,.bool s.out,.int .i64 s.name,.func (.func 197) #[ptr b 0] #[],ptr g 0]
def Dn (g:Nat):List Nat->List Sr->af
 |b::bs,s::ss=>aK b 247 (oB g b s)*Dn g bs ss
 |_,_=>emp
def nR (bs:List Nat) (ss:List Sr):List (UInt32×Nat):=List.zipWith (λb s=>(s.dest,b)) bs ss
def oR (bs:List Nat) (ss:List Sr):List (Int×Nat):=List.zipWith (λb s=>(s.name,b)) bs ss
def iA (b r:Nat) (last:Int) (L:List Tm):af:=hex λl=>pure' (TR l L last)*fZ b r last l
theorem qQ {φ} (h:φ):pure' φ=emp:=by
 unfold pure' emp;congr 1;funext x;simp[h]
def nZ (g:Nat) (bs:List Nat) (ss:List Sr):af:=pure' (bs.length=ss.length)*Dn g bs ss
def eu (g:Nat) (sn:List (Rq×UInt64)) (od:List Rq) (wt:List (UInt32×List cP)) (ss:List Sr) (ck:List Tm) (la:Int) (se:List UInt64) (rs:Nat) (vo:Value) (rw rq ri cb cr:Nat) (vs:Value) (sb:List Nat) (wv:List (Option Addr×Nat×Nat)):af:=
 mp Bt u64 rs sn*(rows 269 2 sE vo od*(mA rw wv wt*(mp u32 gw rq (nR sb ss)*(mp i64 gw ri (oR sb ss)*(nZ g sb ss*(iA cb cr la ck*rows 24 1 eL vs se))))))
def ba (g:Nat) (s:Nd) (h:NH):af:=eu g s.seen s.order s.wait s.bu s.bI s.last s.aP h.rs h.vo h.rw h.rq h.ri h.cb h.cr h.vs h.sb h.wv
def b7 (mu:Int) (s:Nd) (h:NH) (o:dS):List Value:=
 [.int .i32 mu,.int .u32 0,u32 s.self,u32 s.seq,ptr h.tb 0,h.vr,u32 s.own,.map (some h.rh),u64 s.cd,.map (some h.rs),h.vo,.map (some h.rw),.map (some h.rq),.map (some h.ri),ptr h.cb 0,.int .i64 s.names,u32 s.ids,u32 s.ff,h.vs,u64 s.now,aZ o.ay,.bool o.replace,h.vf,h.vc,h.vd]
def cw (h:NH) (o:dS):af:=rows 48 2 dA h.vf o.aJ*(rows 70 2 dA h.vc o.cj*rows 166 1 lr h.vd o.dropped)
def aY (mu:Int) (g:Nat) (s:Nd) (h:NH):af:=
 aK g 159 (b7 mu s h s.out)*(rows 28 3 Rec.cells h.vr s.aI*(mp u32 u32 h.rh s.held*(dR h.tb s.self s.ls*(cw h s.out*ba g s h))))
@[reducible] def bG (g:Nat) (s:Nd) (h:NH):af:=aY 1 g s h
def eD (g:Nat) (s:Nd):af:=hex λh=>bG g s h
theorem z8 {P n w0 E D F ops l' Q g s} (h:∀h,LS P n w0 ops Q l' ⟨E,D,bG g s h*F⟩):LS P n w0 ops Q l' ⟨E,D,eD g s*F⟩:=by
 unfold eD;exact DD h
theorem wA {P n w0 E D F c Q g s} (h:∀h,WS P n w0 c Q ⟨E,D,bG g s h*F⟩):WS P n w0 c Q ⟨E,D,eD g s*F⟩:=by
 unfold eD;exact iU h
theorem aq.nod {g s H F} (h) (e:aq H (bG g s h*F)):aq H (eD g s*F):=aq.mX (p:=λh=>bG g s h) h e
theorem Pk.Gf (p:Pk):p.out.length<=100000:=by
 by_cases h:p.Fits
 ·rw[Pk.vV h];obtain⟨⟨_,_,_,_,h1,h2⟩,_⟩:=h;unfold Pk.bytes;repeat' split
  all_goals simp only[pU,Pr,HM,al,jY]
  all_goals omega
 ·rw[Pk.A7 h];simp
def Nd.write (s:Nd) (r:Rec):Nd:={s with aI:=s.aI++[r],out:={s.out with ay:=s.out.ay++r.bytes},own:=if r.own then r.seq else s.own,held:=if r.own then s.held else bY s.held r.addr r.seq}
def Nd.cf (s:Nd) (l:Ln):Nd:=match bX s.held l.dest with
 |some q=>if q<l.seq then s.write ⟨false,l.dest,l.seq⟩else s
 |none=>s.write ⟨false,l.dest,l.seq⟩
def Nd.dh (s:Nd):Nd:=if s.own<s.seq then s.write ⟨true,0,s.seq⟩else s
def Nd.note (s:Nd):Nd:=(cE s.ls).foldl Nd.cf s.dh
def Nd.begin (s:Nd) (now:UInt64):Nd:={s with now:=now,out:=dS.zero,ls:=mE now s.ls}.note
def Nd.done (s:Nd):Nd:=if 24<s.note.aI.length then {s.note with aI:=cC s.note.aI,out:={s.note.out with ay:=b9 (cC s.note.aI),replace:=true}}else s.note
def Nd.send (s:Nd) (to:UInt32) (p:Pk):Nd:={s with out:={s.out with aJ:=s.out.aJ++[(to,p.out)]}}
def Nd.drop (s:Nd) (k:Int):Nd:={s with out:={s.out with dropped:=s.out.dropped++[k]}}
attribute [local irreducible] WS LS OpQ y6 cn cv Spec bA aK
variable (w0:World)
theorem zbh (mu gn) (s:Nd) (h) (r:Rec) (hr:s.aI.length<=500000) (hj:s.out.ay.length<=900000):Spec ucC w0 60 [ptr gn 0,.agg r.cells.toArray] (aY mu gn s h) (λ_:Value=> .tuple #[]) (λvr=>aY mu gn (s.write r) {h with vr:=vr}):=by
 have Ck:=oe w0 r;have yl:=Rec.dz r;have er:∀vr,ba gn (s.write r) {h with vr:=vr}=ba gn s h:=λ_=>rfl;refine eZ Tryz.func60 Tryz.ntmps60 λG=> ?_;simp only[aY,er];simp only[aN,b7,cw,Nd.write];obtain⟨o,a,q⟩:=r;simp only[Rec.cells]at Ck ⊢;cases o;all_goals
  repeat' (first|refine ae (id:=1) (.range 13) 8 [5,6] ?_|refine zaN (id:=1) 0 3 (.range 13) 12 [5] ?_|refine ae (id:=2) (.range 13) 6 [4,5] ?_|refine zaN (id:=2) 0 3 (.range 13) 12 [4] ?_|refine ae (id:=5) (.range 10) 9 [4,6,8] ?_|intro hc|refine yZ ?_|refine aF ?_ ?_|refine zf4 ?_|((first|refine' ai ?zh rfl ?_|refine' aD ?zh rfl rfl rfl ?_);(case zh=>exact Fx rfl iI rfl iI iI iI);intro g)|refine zgF λg=> ?_|refine cZ Ck λvb=> ?_|(refine aD (au Rec.cells [⟨_,a,q⟩] iI iI iI rfl rfl rfl rfl rfl iI rfl rfl rfl) rfl rfl rfl ?_;intro vx)|(refine aD (aR rfl rfl iI iI rfl iI iI cO (by first|omega|(simp[al]<;>omega)) rfl) rfl rfl rfl ?_;intro va))
 ·exact aj (.inr rfl) rfl ⟨va,rfl,by simp only[AT,VC];exact ah⟩
 ·exact aj (.inr rfl) rfl ⟨va,rfl,by simp only[YZ];exact ah⟩
theorem iE (gn) (s:Nd) (h k) (hd:s.out.dropped.length<=900000):Spec ucC w0 66 [ptr gn 0,.int .i64 k] (bG gn s h) (λ_:Value=> .tuple #[]) (λvd=>bG gn (s.drop k) {h with vd:=vd}):=by
 have er:∀vd,ba gn (s.drop k) {h with vd:=vd}=ba gn s h:=λ_=>rfl;refine eZ Tryz.func66 Tryz.ntmps66 λG=> ?_;simp only[bG,aY,er];simp only[aN,b7,cw,Nd.drop];exact paG
theorem lW (gn) (s:Nd) (h to) (p:Pk) (hp:p.Ok) (v:Value) (hv:v.oneCell'=true) (X) [hX:eX w0 X v (UInt32×UInt32) 2 bB p.lost] (hd:s.out.aJ.length<=900000):Spec ucC w0 117 [ptr gn 0,u32 to,p.val v] (bG gn s h*X) (λ_:Value=> .tuple #[]) (λvf=>bG gn (s.send to p) {h with vf:=vf}*X):=by
 have dY:=B1 w0 p hp v X;have er:∀vf,ba gn (s.send to p) {h with vf:=vf}=ba gn s h:=λ_=>rfl;have Ri:=p.Gf;refine eZ Tryz.func117 Tryz.ntmps117 λG=> ?_;simp only[bG,aY,er];simp only[aN,b7,cw,Nd.send,Pk.val,Pk.cells]at dY ⊢;repeat' (first|refine ae (id:=2) (.range 16) 8 [5] ?_|refine cK (id:=2) 0 (.range 16) 15 [5] ?_|intro K hK|refine ax ?_|refine bT λg=> ?_|((first|refine' ai ?zh rfl ?_|refine' aD ?zh rfl rfl rfl ?_);(case zh=>exact Fx rfl iI rfl iI iI iI);intro g)|refine bQ λg=> ?_|refine cZ dY λvb=> ?_|(refine aD (au dA [(to,p.out)] iI iI iI rfl rfl rfl rfl rfl iI rfl rfl rfl) rfl rfl rfl ?_;intro vx)|(refine aD (aR rfl rfl iI iI rfl iI iI gU (by first|omega|(simp[al]<;>omega)) rfl) rfl rfl rfl ?_;intro va))
 exact aj (.inr rfl) rfl ⟨va,rfl,ah⟩
end
end Go.Proofs.YtapoehkdnglahabGreat
