/- A part. -/
import Derived.Test.YtapoehkdnglahabGreatMd
import Derived.Test.YtapoehkdnglahabGreatMe
import Derived.Test.YtapoehkdnglahabGreatMf
set_option maxHeartbeats 8000000
set_option maxRecDepth 100000
set_option linter.all false
namespace Go.Proofs.YtapoehkdnglahabGreat
section
open Go.RowKit
@[reducible] def gw (g:Nat):Value:=ptr g 0
@[reducible] def jO (_:Unit):Value:= .agg #[]
instance (g:Nat):zaF gw (ptr g 0) g:=⟨rfl⟩
instance:zaF jO (.agg #[]) ():=⟨rfl⟩
attribute [local irreducible] WS LS OpQ y6 cn cv Spec bA aK
variable (w0:World)
theorem Ez (m:List (UInt32×Nat)) (r gm):qf ucC w0 218 [ptr gm 0] (aK gm 214 [.map (some r)]*mp u32 gw r m) (λk=>[u32 k]) (λxs=>xs.Perm (m.map (·.1))):=by
 intro l J Jx hY;refine eZ Tryz.func218 Tryz.ntmps218 λG=> ?_;simp only[aN];repeat' (first|refine ab λK hK=> ?_|refine ax ?_|(refine ai (vC rfl iI iI) rfl ?_;intro it))
 refine aV (λk τ=>∃(pre:List UInt32) (left:List (UInt32×Nat)) (cur:Option (UInt32×Nat)),left.length=k/\(pre++left.map (·.1)).Perm (m.map (·.1))/\τ=⟨[(5,ptr it 0),(0,mM l)],[],Bs u32 gw r it m left cur*(J pre*(aK gm 214 [.map (some r)]*G))⟩) ?_ ?_
 ·exact pbd
 ·rintro k τ ⟨pre,left,cur,hk,hp,rfl⟩;repeat' (first|refine ab λK hK=> ?_|refine ax ?_|(refine aF ?_ ?_<;>intro hc<;>try exact aG)|(refine ai (z6 rfl iI) rfl ?_;rintro⟨_|⟨i,z,u⟩,ho⟩<;>simp only[jC.val,jC.rest,jC.now])|(refine lI (pq rfl iI) rfl ?_))
  ·exact pav
  ·refine LL (vD rfl rfl rfl (hY pre z ⟨pre++[z]++(left.eraseIdx i).map (·.1),lC hp ho,⟨_,rfl⟩⟩)) iI rfl ?_;intro b;cases b;all_goals simp only[Zo,Yv]
   ·repeat' (first|refine ax ?_|(refine aF ?_ ?_<;>intro hc<;>try exact aG))
    refine aj (.inl rfl) rfl ⟨(pre++[z],false),rfl,?_⟩;show aq _ ((_*_)*G);exact aq.trans (F:=Bs u32 gw r it m (left.eraseIdx i) (some (z,u))*(Jx (pre++[z])*(aK gm 214 [.map (some r)]*G))) (ah) (aq.trans aq.qN (ah))
   ·exact paq
theorem Ey (m:List (UInt32×Unit)) (r gm):qf ucC w0 219 [ptr gm 0] (aK gm 228 [.map (some r)]*mp u32 jO r m) (λk=>[u32 k]) (λxs=>xs.Perm (m.map (·.1))):=by
 intro l J Jx hY;refine eZ Tryz.func219 Tryz.ntmps219 λG=> ?_;simp only[aN];repeat' (first|refine ab λK hK=> ?_|refine ax ?_|(refine ai (vC rfl iI iI) rfl ?_;intro it))
 refine aV (λk τ=>∃(pre:List UInt32) (left:List (UInt32×Unit)) (cur:Option (UInt32×Unit)),left.length=k/\(pre++left.map (·.1)).Perm (m.map (·.1))/\τ=⟨[(5,ptr it 0),(0,mM l)],[],Bs u32 jO r it m left cur*(J pre*(aK gm 228 [.map (some r)]*G))⟩) ?_ ?_
 ·exact pbd
 ·rintro k τ ⟨pre,left,cur,hk,hp,rfl⟩;repeat' (first|refine ab λK hK=> ?_|refine ax ?_|(refine aF ?_ ?_<;>intro hc<;>try exact aG)|(refine ai (z6 rfl iI) rfl ?_;rintro⟨_|⟨i,z,u⟩,ho⟩<;>simp only[jC.val,jC.rest,jC.now])|(refine lI (pq rfl iI) rfl ?_))
  ·exact pav
  ·refine LL (vD rfl rfl rfl (hY pre z ⟨pre++[z]++(left.eraseIdx i).map (·.1),lC hp ho,⟨_,rfl⟩⟩)) iI rfl ?_;intro b;cases b;all_goals simp only[Zo,Yv]
   ·repeat' (first|refine ax ?_|(refine aF ?_ ?_<;>intro hc<;>try exact aG))
    refine aj (.inl rfl) rfl ⟨(pre++[z],false),rfl,?_⟩;show aq _ ((_*_)*G);exact aq.trans (F:=Bs u32 jO r it m (left.eraseIdx i) (some (z,u))*(Jx (pre++[z])*(aK gm 228 [.map (some r)]*G))) (ah) (aq.trans aq.qN (ah))
   ·exact paq
theorem ti {gf} {lb:List Value} {X S} (hf:aA ucC gf) (it:qf ucC w0 gf lb X (λk=>[u32 k]) S) (hS:∀xs,S xs->xs.length<=100000):
 Spec ucC w0 231 [.slice none 0 0,.func (.func gf) #[] lb.toArray] X (λp:Value×List UInt32=>p.1) (λp=>pure' (S p.2)*(rows 26 1 cA p.1 p.2*X)):=by
 refine Spec.jr Tryz.func231 rfl Tryz.ntmps231 rfl λG=> ?_
 simp only[aN]
 repeat' (first|(refine hK _ ?_;clear hK K)|refine ab λK hK=> ?_|refine ax ?_|refine bT λg=> ?_)
 revert g;intro gs
 refine cV (aq.nil _ 26 1 cA none) ?_
 refine cV (H':=X*((hex λv=>aK gs 51 [v]*rows 26 1 cA v ([]:List UInt32))*G)) (aq.trans (F:=(hex λv=>aK gs 51 [v]*rows 26 1 cA v ([]:List UInt32))*(X*G)) (aq.mX (p:=λv=>aK gs 51 [v]*rows 26 1 cA v ([]:List UInt32)) (Value.slice none 0 0) (ah)) (ah)) ?_
 refine ry rfl rfl hf it rfl (λ_=>rfl) (λpre=>hex λv=>aK gs 51 [v]*rows 26 1 cA v pre) (λ_ _=>pure' False) rfl ?_ ?_ ?_
 ·rintro l pre x R ⟨xs,ta,Lt⟩
  have hlen:pre.length+1<=100000:=by
   have:=Lt.length_le;have:=hS xs ta;simp at*;omega
  refine iU λv=> ?_
  repeat' (refine ax ?_)
  refine vI rfl (aK gs 51 [v]*rows 26 1 cA v pre) (ah) λR'=> ?_
  repeat' (first|refine ax ?_|refine bQ λg=> ?_|(refine ai (au cA [x] iI iI iI rfl rfl rfl rfl rfl iI rfl rfl rfl) rfl ?_;intro vs)|(refine ai (aR rfl rfl iI iI rfl iI iI ko (by first|omega|(simp[al]<;>omega)) rfl) rfl ?_;intro va))
  show aq _ _
  refine aq.mX va ?_
  exact ah
 ·intro b xs ta
  refine hK _ ?_
  refine cV (H':=(hex λv=>aK gs 51 [v]*rows 26 1 cA v xs)*(pW b*(X*G))) (ah) ?_
  refine iU λv=> ?_
  repeat' (first|(refine hK _ ?_;clear hK K)|refine ab λK hK=> ?_|refine ax ?_)
  refine zcc ?_
  refine vU (λh=>by cases h) iI ?_
  refine zbu rfl (bh rfl) ⟨(v,xs),rfl,?_⟩
  show aq _ ((pure' (S xs)*(rows 26 1 cA v xs*X))*G)
  rw[ad (pure' (S xs))]
  refine aq.ji ta ?_
  exact ah
 ·intro b c pre
  exact jR (φ:=False) λh=>h.elim
theorem wS {gf} {lb:List Value} {X S} (hf:aA ucC gf) (it:qf ucC w0 gf lb X (λk=>[u32 k]) S) (hS:∀xs,S xs->xs.length<=100000):
 Spec ucC w0 216 [.func (.func gf) #[] lb.toArray] X (λp:Value×List UInt32=>p.1) (λp=>pure' (S p.2)*(rows 26 1 cA p.1 p.2*X)):=by
 have Oq:=ti w0 hf it hS
 refine eZ Tryz.func216 Tryz.ntmps216 λG=> ?_
 simp only[aN]
 repeat' (first|intro K hK|refine ax ?_|refine cZ Oq λp=> ?_)
 exact aC (.inl rfl) rfl rfl ⟨p,rfl,ah⟩
theorem qt {gf} {lb:List Value} {X S} (hf:aA ucC gf) (it:qf ucC w0 gf lb X (λk=>[u32 k]) S) (hS:∀xs,S xs->xs.length<=12):
 Spec ucC w0 181 [.func (.func gf) #[] lb.toArray] X (λp:Value×(l:List UInt32)×nz l=>p.1) (λp=>pure' (S p.2.1)*(rows 26 1 cA p.1 p.2.2.l'*X)):=by
 have Ou:=wS w0 hf it (λxs h=>by have:=hS xs h;omega)
 refine eZ Tryz.func181 Tryz.ntmps181 λG=> ?_
 simp only[aN]
 repeat' (first|refine ab λK hK=> ?_|refine ax ?_|(refine ai (aa iI rfl Ou iI) rfl ?_;rintro⟨v,l⟩;refine lH iI λhp=> ?_;have Rv:=Dm w0 v l (hS l hp);dsimp only)|refine cZ (by assumption) λs=> ?_)
 refine aC (.inl rfl) rfl rfl ⟨(v,⟨l,s⟩),rfl,?_⟩
 show aq _ ((pure' (S l)*(rows 26 1 cA v s.l'*X))*G)
 rw[ad (pure' (S l))]
 exact aq.ji hp (ah)
theorem Cv (r):Spec ucC w0 182 [.map (some r)] emp (λg:Nat=> .func (.func 218) #[] [ptr g 0].toArray) (λg=>aK g 214 [.map (some r)]):=by
 refine eZ Tryz.func182 Tryz.ntmps182 λG=> ?_;exact paM
theorem Cu (r):Spec ucC w0 183 [.map (some r)] emp (λg:Nat=> .func (.func 219) #[] [ptr g 0].toArray) (λg=>aK g 228 [.map (some r)]):=by
 refine eZ Tryz.func183 Tryz.ntmps183 λG=> ?_;exact paM
end
section
open Go.RowKit
structure Ln where
 dest:UInt32
 seq:UInt32
 aH:Int
 next:UInt32
 valid:Bool
 cB:UInt64
 before:List UInt32
deriving DecidableEq
def bS (x:UInt32):UInt32:=if x+1=0 then x else x+1
def Ln.rk (l:Ln):Int:=if l.valid then(l.seq.toNat:Int)else(l.seq.toNat:Int) - 1
def Ln.ended (l:Ln) (s:UInt32):Ln:={l with seq:=max (bS l.seq) s,valid:=false,cB:=0,before:=[]}
def cN:List Ln->UInt32->Option Nat
 |[],_=>none
 |l::r,d=>if l.dest=d then some 0 else(cN r d).map (·+1)
theorem dw:∀{ls:List Ln} {d:UInt32} {i:Nat},cN ls d=some i->∃l,ls[i]? =some l/\l.dest=d
 |[],_,_,h=>by cases h
 |l::r,d,i,h=>by
  simp only[cN]at h;split at h
  ·rename_i e;cases h;exact⟨l,rfl,e⟩
  ·cases hr:cN r d with
   |none=>rw[hr]at h;cases h
   |some j=>rw[hr]at h;cases h;obtain⟨l',h1,h2⟩:=dw hr;exact⟨l',by simpa using h1,h2⟩
theorem lN:∀{ls:List Ln} {d:UInt32},cN ls d=none↔∀l∈ls,l.dest≠d
 |[],_=>by simp[cN]
 |l::r,d=>by
  simp only[cN];split
  ·rename_i e;simp[e]
  ·rename_i e;rw[ucg,lN];simp[e]
def dG (ls:List Ln) (d:UInt32):Option Ln:=(cN ls d).bind (ls[·]?)
def lP (ls:List Ln) (d:UInt32) (f:Ln->Ln):List Ln:=match cN ls d with
 |some i=>ls.modify i f
 |none=>ls
theorem eO {ls d i l} (h:cN ls d=some i) (hl:ls[i]? =some l):dG ls d=some l:=by simp[dG,h,hl]
theorem jI {ls d} (h:cN ls d=none):dG ls d=none:=by simp[dG,h]
theorem fm {ls:List Ln} {d i l f} (h:cN ls d=some i) (hl:ls[i]? =some l):lP ls d f=ls.set i (f l):=by
 simp only[lP,h];apply zD;intro j;rw[uab,Dg];by_cases e:i=j
 ·subst e;obtain⟨h1,h2⟩:=az.1 hl;simp[h1,h2]
 ·simp[e]
theorem ng {ls d f} (h:cN ls d=none):lP ls d f=ls:=by simp[lP,h]
theorem zv:∀{ls:List Ln} {d:UInt32} {i:Nat} {l l':Ln},ls[i]? =some l->l'.dest=l.dest->cN (ls.set i l') d=cN ls d
 |[],_,_,_,_,h,_=>by simp at h
 |x::ls,d,0,l,l',h,hd=>by simp at h;subst h;simp[cN,hd]
 |x::ls,d,i+1,l,l',h,hd=>by
  rw[uaC];simp only[cN];rw[zv (by simpa using h) hd]
theorem CA {ls:List Ln} {d i} {l l':Ln} (hf:cN ls d=some i) (hl:ls[i]? =some l) (hd:l'.dest=d) (rU:l.dest=d:=by assumption):dG (ls.set i l') d=some l':=
 eO ((zv hl (hd.trans rU.symm)).trans hf) (by simp[(az.1 hl).1])
def j8 (ls:List Ln) (x:Ln):List Ln:=match cN ls x.dest with
 |some i=>ls.set i x
 |none=>ls++[x]
def dI (self:UInt32) (ls:List Ln) (x:Ln):Int×List Ln:=
 if x.dest=self\/x.dest=0 then(2,ls)else
 match dG ls x.dest with
 |some l=>if(x.seq.toNat:Int)<l.rk\/(x.seq.toNat:Int)=l.rk/\ -x.aH<= -l.aH then(3,ls)else(0,j8 ls {x with valid:=true,before:=[]})
 |none=>if 8<=ls.length then(4,ls)else(0,j8 ls {x with valid:=true,before:=[]})
def eJ (ls:List Ln) (d:UInt32):UInt32:=match dG ls d with
 |some l=>l.seq
 |none=>0
def bR (ls:List Ln) (d:UInt32) (now:UInt64):Option Ln:=match dG ls d with
 |some l=>if l.valid=true/\now<l.cB then some l else none
 |none=>none
def iY (ls:List Ln) (d:UInt32) (e:UInt64):List Ln:=lP ls d λl=>if l.valid then {l with cB:=max l.cB e}else l
def sI (bs:List UInt32) (n:UInt32):List UInt32:=(bY (bs.map (·,())) n ()).map (·.1)
def gF (ls:List Ln) (d nb:UInt32):List Ln:=lP ls d λl=>if l.valid=true/\l.before.length<4 then {l with before:=sI l.before nb}else l
def ia (ls:List Ln) (d:UInt32):List Ln:=lP ls d λl=>{l with seq:=bS l.seq}
def fR (ls:List Ln) (src d:UInt32):Bool:=match dG ls d with
 |some l=>l.valid&&decide (l.next=src)
 |none=>false
def iS (ls:List Ln) (src d s:UInt32):List Ln:=lP ls d λl=>if l.valid=true/\l.next=src then l.ended s else l
def Ln.exp (now:UInt64) (l:Ln):Ln:=if l.valid=true/\l.cB<=now then l.ended 0 else l
def mE (now:UInt64) (ls:List Ln):List Ln:=ls.map (Ln.exp now)
def Ln.brk (nb:UInt32) (l:Ln):Ln:=if l.valid=true/\l.next=nb then l.ended 0 else l
def bM (l:Ln) (b:Value):List Value:=[u32 l.dest,u32 l.seq,.int .i64 l.aH,u32 l.next,.bool l.valid,u64 l.cB,b]
def cU (l:Ln) (rb:Nat):List Value:=[u32 l.dest,u32 l.seq,.int .i64 l.aH,u32 l.next,.bool l.valid,u64 l.cB,.slice none 0 0,.map (some rb)]
def kc (bs:List UInt32):List (UInt32×Unit):=bs.map (·,())
def lu (b rb:Nat) (l:Ln):af:=aK b 230 (cU l rb)*mp u32 jO rb (kc l.before)
def dN:List (Nat×Nat)->List Ln->af
 |b::bs,l::ls=>lu b.1 b.2 l*dN bs ls
 |_,_=>emp
def lmap (bs:List (Nat×Nat)) (ls:List Ln):List (UInt32×Nat):=List.zipWith (λb l=>(l.dest,b.1)) bs ls
def dO (g r:Nat) (self:UInt32) (bs:List (Nat×Nat)) (ls:List Ln):af:=aK g 216 [u32 self,.map (some r)]*(mp u32 gw r (lmap bs ls)*dN bs ls)
def dR (g:Nat) (self:UInt32) (ls:List Ln):af:=hex λx:Nat×List (Nat×Nat)=>pure' (x.2.length=ls.length)*dO g x.1 self x.2 ls
theorem lT:∀(bs:List (Nat×Nat)) (ls:List Ln) (d:UInt32),bs.length=ls.length->dT (lmap bs ls) d=cN ls d
 |[],[],_,_=>rfl
 |b::bs,l::ls,d,h=>by
  have ih:=lT bs ls d (by simpa using h);show(if l.dest=d then some 0 else(dT (lmap bs ls) d).map (·+1))=_;rw[ih];rfl
 |[],_::_,_,h=>by simp at h
 |_::_,[],_,h=>by simp at h
theorem Kj {bs ls} {i:Nat} {b} {l:Ln} (hb:bs[i]? =some b) (hl:ls[i]? =some l):(lmap bs ls)[i]? =some (l.dest,b.1):=by
 simp[lmap,Zp,hb,hl]
theorem Kk {bs} {ls:List Ln} {i} {l l':Ln} (hl:ls[i]? =some l) (hd:l'.dest=l.dest):lmap bs (ls.set i l')=lmap bs ls:=by
 apply zD;intro j;simp only[lmap,Zp,Dg];by_cases e:i=j
 ·subst e;have bW:=(az.1 hl).1;simp only[YZ,bW,hl];cases bs[i]? <;>simp[hd]
 ·simp[e]
theorem kK:∀{bs:List (Nat×Nat)} {ls:List Ln} {i:Nat} {b:Nat×Nat} {l:Ln},bs[i]? =some b->ls[i]? =some l->
 ∃F,dN bs ls=lu b.1 b.2 l*F/\∀l',dN bs (ls.set i l')=lu b.1 b.2 l'*F
 |b0::bs,l0::ls,0,b,l,hb,hl=>by
  simp at hb hl;subst hb;subst hl;exact⟨dN bs ls,rfl,λ_=>rfl⟩
 |b0::bs,l0::ls,i+1,b,l,hb,hl=>by
  obtain⟨F,h1,h2⟩:=kK (bs:=bs) (ls:=ls) (i:=i) (by simpa using hb) (by simpa using hl);exact⟨lu b0.1 b0.2 l0*F,by rw[dN,h1,aM],λl'=>by rw[uaC,dN,h2,aM]⟩
 |[],_,_,_,_,hb,_=>by simp at hb
 |_::_,[],_,_,_,_,hl=>by simp at hl
theorem sd:∀{bs:List (Nat×Nat)} {ls:List Ln} {i:Nat} {b:Nat×Nat} {l:Ln},bs[i]? =some b->ls[i]? =some l->
 ∃F,dN bs ls=lu b.1 b.2 l*F/\∀b' l',dN (bs.set i b') (ls.set i l')=lu b'.1 b'.2 l'*F
 |b0::bs,l0::ls,0,b,l,hb,hl=>by
  simp at hb hl;subst hb;subst hl;exact⟨dN bs ls,rfl,λ_ _=>rfl⟩
 |b0::bs,l0::ls,i+1,b,l,hb,hl=>by
  obtain⟨F,h1,h2⟩:=sd (bs:=bs) (ls:=ls) (i:=i) (by simpa using hb) (by simpa using hl);exact⟨lu b0.1 b0.2 l0*F,by rw[dN,h1,aM],λb' l'=>by rw[uaC,uaC,dN,h2,aM]⟩
 |[],_,_,_,_,hb,_=>by simp at hb
 |_::_,[],_,_,_,_,hl=>by simp at hl
theorem uE:∀{bs:List (Nat×Nat)} {ls:List Ln} (b:Nat×Nat) (l:Ln),bs.length=ls.length->dN (bs++[b]) (ls++[l])=lu b.1 b.2 l*dN bs ls
 |[],[],b,l,_=>rfl
 |b0::bs,l0::ls,b,l,h=>by
  show lu b0.1 b0.2 l0*dN (bs++[b]) (ls++[l])=_;rw[uE b l (by simpa using h),aM];rfl
 |[],_::_,_,_,h=>by simp at h
 |_::_,[],_,_,h=>by simp at h
theorem yC {bs:List (Nat×Nat)} {ls:List Ln} {x:Ln} (b) (hlen:bs.length=ls.length) (h:cN ls x.dest=none):bY (lmap bs ls) x.dest b.1=lmap (bs++[b]) (ls++[x]):=by
 unfold bY;rw[lT bs ls _ hlen,h];simp only[lmap];rw[List.zipWith_append hlen];rfl
theorem yD {bs:List (Nat×Nat)} {ls:List Ln} {x:Ln} {i} (b) (hlen:bs.length=ls.length) (h:cN ls x.dest=some i):bY (lmap bs ls) x.dest b.1=lmap (bs.set i b) (ls.set i x):=by
 unfold bY;rw[lT bs ls _ hlen,h];obtain⟨l,hl,hd⟩:=dw h;have bW:=(az.1 hl).1;apply zD;intro j;simp only[lmap,Zp,Dg,List.length_zipWith];by_cases e:i=j
 ·subst e;simp[bW,hlen]
 ·simp[e]
theorem l4 {g r self} {bs:List (Nat×Nat)} {ls:List Ln} {d i} (hlen:bs.length=ls.length) (h:cN ls d=some i):∃(b rb:Nat) (l:Ln) (F:af),ls[i]? =some l/\l.dest=d/\bX (lmap bs ls) d=some b/\
 dO g r self bs ls=aK g 216 [u32 self,.map (some r)]*(mp u32 gw r (lmap bs ls)*(aK b 230 (cU l rb)*(mp u32 jO rb (kc l.before)*F)))/\
 ∀l',l'.dest=l.dest->dO g r self bs (ls.set i l')=aK g 216 [u32 self,.map (some r)]*(mp u32 gw r (lmap bs ls)*(aK b 230 (cU l' rb)*(mp u32 jO rb (kc l'.before)*F))):=by
 obtain⟨l,hl,hd⟩:=dw h
 obtain⟨b,hb⟩:∃b,bs[i]? =some b:=⟨_,aX (by rw[hlen];exact(az.1 hl).1)⟩
 obtain⟨F,h1,h2⟩:=kK hb hl
 refine⟨b.1,b.2,l,F,hl,hd,?_,?_,λl' ON=> ?_⟩
 ·unfold bX
  rw[lT bs ls d hlen,h]
  simp[Kj hb hl]
 ·unfold dO;rw[h1];unfold lu;rw[ad]
 ·unfold dO;rw[h2,Kk hl ON];unfold lu;rw[ad]
theorem l3 {bs:List (Nat×Nat)} {ls:List Ln} {d} (hlen:bs.length=ls.length) (h:cN ls d=none):bX (lmap bs ls) d=none:=by
 unfold bX;rw[lT bs ls d hlen,h]
theorem aq.dR {g r self} {bs:List (Nat×Nat)} {ls:List Ln} {H F} (hlen:bs.length=ls.length) (h:aq H (dO g r self bs ls*F)):aq H (dR g self ls*F):=
 aq.trans h (aq.trans (aq.ji hlen (aq.refl _)) (aq.trans (aq.of_eq (ad _ _ _).symm) (aq.qA (p:=λx:Nat×List (Nat×Nat)=>pure' (x.2.length=ls.length)*dO g x.1 self x.2 ls) (r,bs))))
theorem Spec.dR {P w0 f args g self} {ls:List Ln} {X α} {res:α->Value} {post} (h:∀r bs,bs.length=ls.length->Spec P w0 f args (dO g r self bs ls*X) res post):Spec P w0 f args (dR g self ls*X) res post:=λG w hs=>by
 have iu:Sat w0 w (hex (λx:Nat×List (Nat×Nat)=>pure' (x.2.length=ls.length)*dO g x.1 self x.2 ls)*(X*G)):=hs.cast (ad _ _ _);obtain⟨x,fP⟩:=iu.ex;obtain⟨hl,qI⟩:=(fP.cast (ad _ _ _)).pure;exact h x.1 x.2 hl G w (qI.cast (ad _ _ _).symm)
theorem NQ:u64 0= .int .u64 0:=rfl
theorem Gw:u32 0= .int .u32 0:=rfl
theorem lx {P:Program} {n:fT} {E:Env} {H:af} {w0:World} {d:Option Tmp} {src t ty:TypeId} {pos:String} {after:Array Edge} {gu:Option (Nat×Bool)} {x:Operand} {v:Value} {a:UInt32} {ds:TypeDesc} (hx:E.ev x=some v) (hv:zag v a) (hs:eN P src ds) (hd:eN P t (.int .i64)):OpQ P n w0 ⟨d,.convert src t x,ty,pos,after,gu⟩ E H (.int .i64 (a.toNat:Int)):=by
 obtain⟨rfl⟩:=hv;exact kX hx hs hd (IntWalk.i64_in _ (by have:=a.toNat_lt;omega))
theorem IL {P:Program} {n:fT} {w0:World} {E:Env} {H F:af} {d:Option Tmp} {x:Operand} {r:Nat} {κ ν:Type} {fk:κ->Value} {fv:ν->Value} {m:List (κ×ν)} {t kt et ty:TypeId} {pos:String} {after:Array Edge} {gu:Option (Nat×Bool)} (hx:E.ev x=some (.map (some r))) (hl:jQ H r κ ν fk fv m F) (hm:rp P t kt et):
 cn P n w0 ⟨d,.call ⟨.builtin .clear,#[x],#[t]⟩,ty,pos,after,gu⟩ E H (λ_:Unit=> .tuple #[]) (λ_=>mp fk fv r []*F):=by
 refine cn.mk' (pre:=mp fk fv r m) (post:=λ_=>mp fk fv r []) (λG a w K Q s hs hK=> ?_) hl.eq
 obtain⟨es,clock,l5,h1,h2,h3,hp⟩:=hs.oV
 have hr:(Builtin.clear_ #[t] ty #[.map (some r)]).run P w= .ok (.tuple #[]) {w with heap:=w.heap.setIfInBounds r (.map #[] clock)}:=by
  simp[Builtin.clear_,run_underlying hm.eq,run_getObj_map l5,run_setObj_map l5]
 simp only[Oper.wp,execOp,resolve,invoke,builtin,Sem.run_bind,Sem.run_pure,Result.andThen_ok,ubh,Hh,Xp,s.ev hx,hr,Oper.upon_value]
 exact hK () _ (Sat.map_mk hp.setObj (by simp) (by simp) (by simp))
attribute [local irreducible] WS LS OpQ y6 cn cv Spec bA aK
variable (w0:World)
theorem zby {g r self bs ls d b rb} {l:Ln} {F} (hm:bX (lmap bs ls) d=some b):
 Spec ucC w0 214 [ptr g 0,u32 d] (aK g 216 [u32 self,.map (some r)]*(mp u32 gw r (lmap bs ls)*(aK b 230 (cU l rb)*F))) (λ_:Unit=> .tuple #[ptr b 0,.bool l.valid]) (λ_=>aK g 216 [u32 self,.map (some r)]*(mp u32 gw r (lmap bs ls)*(aK b 230 (cU l rb)*F))):=by
 refine eZ Tryz.func214 Tryz.ntmps214 λG=> ?_
 simp only[aN,cU]
 repeat' (first|refine ag (id:=2) (.range 11) ?_|intro K hK|refine ax ?_|refine zhN ?_)
 exact de (.inl rfl) rfl rfl rfl ⟨(),rfl,ah⟩
theorem n9 {g r self bs ls d F} (hm:bX (lmap bs ls) d=none):
 Spec ucC w0 214 [ptr g 0,u32 d] (aK g 216 [u32 self,.map (some r)]*(mp u32 gw r (lmap bs ls)*F)) (λ_:Unit=> .tuple #[.pointer none,.bool false]) (λ_=>aK g 216 [u32 self,.map (some r)]*(mp u32 gw r (lmap bs ls)*F)):=by
 refine eZ Tryz.func214 Tryz.ntmps214 λG=> ?_
 simp only[aN]
 repeat' (first|refine ag (id:=2) (.range 11) ?_|intro K hK|refine ax ?_|((first|refine' LQ ?zh rfl ?_|refine' bk rfl rfl ?zh ?_);case zh=>intro F';exact iJ rfl rfl iI iI iI iI iI (by assumption))|fail)
 exact de (.inl rfl) rfl rfl rfl ⟨(),rfl,ah⟩
theorem w4 (b rb) (l:Ln) (s):Spec ucC w0 168 [ptr b 0,u32 s] (aK b 230 (cU l rb)*mp u32 jO rb (kc l.before)) (λ_:Unit=> .tuple #[]) (λ_=>aK b 230 (cU (l.ended s) rb)*mp u32 jO rb (kc (l.ended s).before)):=by
 have hg:=mW w0 l.seq;refine eZ Tryz.func168 Tryz.ntmps168 λG=> ?_;simp only[aN,cU];repeat' (first|intro K hK|refine ax ?_|refine bQ λg=> ?_|refine cZ hg λu=> ?_|(refine bL (IL rfl iI iI) ?_;intro u))
 exact aj (.inr rfl) rfl ⟨(),rfl,by simp only[Ln.ended,bS,kc,Xp,NQ];exact ah⟩
theorem HS (b rb) (l:Ln) (h1:0<=l.aH) (h2:l.aH<=1000):Spec ucC w0 213 [ptr b 0] (aK b 230 (cU l rb)) (λ_:Unit=> .tuple #[.int .i64 l.rk,.int .i64 (-l.aH)]) (λ_=>aK b 230 (cU l rb)):=by
 refine eZ Tryz.func213 Tryz.ntmps213 λG=> ?_;simp only[aN,cU];have hs:=l.seq.toNat_lt;cases hv:l.valid;all_goals
  repeat' (first|refine ag (id:=4) (.range 9) ?_|intro hc|refine xyZ ?_|refine aF ?_ ?_|((first|refine' LQ ?zh rfl ?_|refine' bk rfl rfl ?zh ?_);case zh=>intro F';exact DF rfl (by omega))|(refine lI (lx rfl iI iI iI) rfl ?_))
 all_goals exact de (.inl rfl) rfl rfl rfl ⟨(),by simp[Ln.rk,hv],by rw[<-hv];exact ah⟩
theorem zcU (g r self) (bs:List (Nat×Nat)) (ls:List Ln) (hlen:bs.length=ls.length) (d):Spec ucC w0 67 [ptr g 0,u32 d] (dO g r self bs ls) (λ_:Unit=> .tuple #[u32 (eJ ls d),.bool (dG ls d).isSome]) (λ_=>dO g r self bs ls):=by
 have xj:=l3 (d:=d) hlen;cases hf:cN ls d with
 |none=>
  have hm:=xj hf;simp only[eJ,jI hf,dO];refine eZ Tryz.func67 Tryz.ntmps67 λG=> ?_;simp only[aN];repeat' (first|intro hc|refine xyZ ?_|refine aF ?_ ?_|refine zgg ?_)
  exact de (.inl rfl) rfl rfl rfl ⟨(),rfl,ah⟩
 |some i=>
  obtain⟨b,rb,l,F,hl,hd,hm,e,e'⟩:=l4 (g:=g) (r:=r) (self:=self) hlen hf;simp only[eJ,eO hf hl,e,cU];refine eZ Tryz.func67 Tryz.ntmps67 λG=> ?_;simp only[aN];repeat' (first|intro hc|refine xyZ ?_|refine aF ?_ ?_|refine zgh ?_)
  exact de (.inl rfl) rfl rfl rfl ⟨(),rfl,ah⟩
theorem DW (g r self) (bs:List (Nat×Nat)) (ls:List Ln) (hlen:bs.length=ls.length) (d):Spec ucC w0 180 [ptr g 0,u32 d] (dO g r self bs ls) (λ_:Unit=>u32 (eJ (ia ls d) d)) (λ_=>dO g r self bs (ia ls d)):=by
 have xj:=l3 (d:=d) hlen;cases hf:cN ls d with
 |none=>
  have hm:=xj hf;simp only[ia,ng hf,eJ,jI hf,dO];refine eZ Tryz.func180 Tryz.ntmps180 λG=> ?_;simp only[aN];repeat' (first|intro hc|refine xyZ ?_|refine aF ?_ ?_|refine zgg ?_)
  exact aC (.inl rfl) rfl rfl ⟨(),rfl,ah⟩
 |some i=>
  obtain⟨b,rb,l,F,hl,hd,hm,e,e'⟩:=l4 (g:=g) (r:=r) (self:=self) hlen hf;have hg:=mW w0 l.seq;have T8:dG (ls.set i {l with seq:=bS l.seq}) d=some {l with seq:=bS l.seq}:=CA hf hl hd;simp only[ia,fm hf hl,eJ,T8,e,e' {l with seq:=bS l.seq} rfl];refine eZ Tryz.func180 Tryz.ntmps180 λG=> ?_;simp only[aN,cU];repeat' (first|intro hc|refine xyZ ?_|refine aF ?_ ?_|refine zgh ?_|refine bQ λg=> ?_|refine cZ hg λu=> ?_)
  exact aC (.inl rfl) rfl rfl ⟨(),rfl,by simp only[bS];exact ah⟩
theorem It (g r self) (bs:List (Nat×Nat)) (ls:List Ln) (hlen:bs.length=ls.length) (d ex):Spec ucC w0 173 [ptr g 0,u32 d,u64 ex] (dO g r self bs ls) (λ_:Unit=> .tuple #[]) (λ_=>dO g r self bs (iY ls d ex)):=by
 have xj:=l3 (d:=d) hlen;cases hf:cN ls d with
 |none=>
  have hm:=xj hf;simp only[iY,ng hf,dO];have hv:=n9 (w0:=w0) (g:=g) (r:=r) (self:=self) (bs:=bs) (ls:=ls) (d:=d) (F:=dN bs ls) hm;refine eZ Tryz.func173 Tryz.ntmps173 λG=> ?_;simp only[aN];repeat' (first|intro hc|refine xyZ ?_|refine aF ?_ ?_|refine cZ hv λu=> ?_)
  exact aj (.inr rfl) rfl ⟨(),rfl,ah⟩
 |some i=>
  obtain⟨b,rb,l,F,hl,hd,hm,e,e'⟩:=l4 (g:=g) (r:=r) (self:=self) hlen hf;have hv:=zby (w0:=w0) (g:=g) (r:=r) (self:=self) (bs:=bs) (ls:=ls) (d:=d) (l:=l) (rb:=rb) (F:=mp u32 jO rb (kc l.before)*F) hm;cases RE:l.valid;all_goals
   rw[RE]at hv
   simp only[iY,fm hf hl,RE]
   simp only[AT,VC,YZ]
   refine eZ Tryz.func173 Tryz.ntmps173 λG=> ?_
   simp only[aN,e,cU,RE]at hv ⊢
   repeat' (first|intro hc|refine xyZ ?_|refine aF ?_ ?_|((refine' LQ ?zh rfl ?_);case zh=>intro F';exact LV rfl rfl iI iI)|refine bQ λg=> ?_|refine cZ hv λu=> ?_)
  ·exact aj (.inr rfl) rfl ⟨(),rfl,by rw[e' l rfl];simp only[cU,RE];exact ah⟩
  ·exact aj (.inr rfl) rfl ⟨(),rfl,by rw[e' ⟨l.dest,l.seq,l.aH,l.next,true,max l.cB ex,l.before⟩ rfl];simp only[cU,RE];exact ah⟩
end
section
open Go.RowKit
def aQ (l:List UInt32):List UInt32:=l.mergeSort (λa b=>decide (a.toNat<=b.toNat))
theorem lX (l):fH (aQ l):=by
 have:=List.pairwise_mergeSort (le:=λa b:UInt32=>decide (a.toNat<=b.toNat)) (by intro a b c h1 h2;simp at*;omega) (by intro a b;simp;omega) l;exact this.imp (by simp)
theorem sK {l l0:List UInt32} (hp:l0.Perm l) (s:nz l0):s.l'=aQ l:=
 ub7 (λa b _ _ h1 h2=>HL.1 (Nat.le_antisymm h1 h2)) s.fH (lX l) ((s.perm.trans hp).trans (Z6 l _).symm)
theorem Jl (l):(kc l).map (·.1)=l:=by simp[kc,uby]
theorem mg (l:List UInt32):(kc l).length=l.length:=by simp[kc]
@[reducible] def il (l:Ln) (p:Option Addr×Nat):Value:= .slice p.1 (aQ l.before).length p.2
theorem fU {P n w0 E D H ops l' Q α size f} {l:List α} (v) (hl:eX w0 H v α size f l) (h:∀A cap,v= .slice A l.length cap->LS P n w0 ops Q l' ⟨E,D,H⟩):LS P n w0 ops Q l' ⟨E,D,H⟩:=λa w g=>by
 obtain⟨A,c,e,_⟩:=(hl.at_ w g.sat).form;exact h A c e a w g
attribute [local irreducible] WS LS OpQ y6 cn cv Spec bA aK
variable (w0:World)
theorem uy (b rb) (l:Ln) (hb:l.before.length<=12):Spec ucC w0 123 [ptr b 0] (aK b 230 (cU l rb)*mp u32 jO rb (kc l.before)) (λp:Option Addr×Nat=> .agg (bM l (il l p)).toArray) (λp=>rows 26 1 cA (il l p) (aQ l.before)*(aK b 230 (cU l rb)*mp u32 jO rb (kc l.before))):=by
 have hk:=Cu w0 rb;have hs:∀gk,Spec ucC w0 181 [.func (.func 219) #[] [ptr gk 0].toArray] (aK gk 228 [.map (some rb)]*mp u32 jO rb (kc l.before)) (λp:Value×(l:List UInt32)×nz l=>p.1) (λp=>pure' (p.2.1.Perm ((kc l.before).map (·.1)))*(rows 26 1 cA p.1 p.2.2.l'*(aK gk 228 [.map (some rb)]*mp u32 jO rb (kc l.before)))):=λgk=>
  qt w0 iI (Ey w0 (kc l.before) rb gk) (λxs hx=>by have:=hx.length_eq;simp[mg]at this;omega)
 refine eZ Tryz.func123 Tryz.ntmps123 λG=> ?_;simp only[aN,cU];repeat' (first|intro K hK|refine ax ?_|refine bT λg=> ?_|refine bQ λg=> ?_|refine cZ hk λgk=> ?_|(refine ai (aa iI rfl (hs gk) iI) rfl ?_;rintro⟨v,l0,sk⟩;refine lH iI λhp=> ?_;dsimp only;refine fU v iI λA cap hv=> ?_;subst hv))
 have qZ:l0.Perm l.before:=by rw[<-Jl l.before];exact hp
 refine gD (.inl rfl) rfl (aS rfl iI iI rfl) ⟨(A,cap),by simp only[il,<-sK qZ sk];rfl,?_⟩;simp only[il];rw[<-sK qZ sk];exact ah
theorem zaf (gt r self) (bs:List (Nat×Nat)) (ls:List Ln) (hlen:bs.length=ls.length) (x:Ln) (hx:x.before=[]):Spec ucC w0 110 [ptr gt 0,.agg (bM x (.slice none 0 0)).toArray] (dO gt r self bs ls) (λ_:Unit=> .tuple #[]) (λ_=>dR gt self (j8 ls x)):=by
 have S9:kc x.before=[]:=by rw[hx];rfl
 refine eZ Tryz.func110 Tryz.ntmps110 λG=> ?_;simp only[aN,bM,dO];repeat' (first|(refine hK _ ?_;clear hK K)|refine ae (id:=1) (.range 11) 10 [3,5,6] ?_|intro K hK|refine ax ?_|refine bT λg=> ?_|refine zfz λg=> ?_|(refine aD (ew u32 jO) rfl rfl rfl ?_;intro rb))
 rename_i bx bn;refine aj (.inr rfl) rfl ⟨(),rfl,?_⟩;cases hf:cN ls x.dest with
 |none=>
  have e1:j8 ls x=ls++[x]:=by simp only[j8,hf]
  rw[e1,yC (bn,rb) hlen hf];refine aq.dR (r:=r) (bs:=bs++[(bn,rb)]) (by simp[hlen]) ?_;unfold dO;rw[uE (bn,rb) x hlen];simp only[lu,cU,S9];exact ah
 |some i=>
  have e1:j8 ls x=ls.set i x:=by simp only[j8,hf]
  obtain⟨l,hl,hd⟩:=dw hf;obtain⟨b,hb⟩:∃b,bs[i]? =some b:=⟨_,aX (by rw[hlen];exact(az.1 hl).1)⟩
  obtain⟨F,h1,h2⟩:=sd hb hl;rw[e1,yD (bn,rb) hlen hf,h1];refine aq.dR (r:=r) (bs:=bs.set i (bn,rb)) (by simp[hlen]) ?_;unfold dO;rw[h2 (bn,rb) x];simp only[lu,cU,S9];exact ah
end
section
open Go.RowKit
def Ln.zero:Ln:=⟨0,0,0,0,false,0,[]⟩
def fX (o:Option Ln) (p:Option Addr×Nat):Value:=match o with
 |some l=> .tuple #[.agg (bM l (il l p)).toArray,.bool true]
 |none=> .tuple #[.agg (bM Ln.zero (.slice none 0 0)).toArray,.bool false]
def fW (o:Option Ln) (p:Option Addr×Nat):af:=match o with
 |some l=>rows 26 1 cA (il l p) (aQ l.before)
 |none=>emp
theorem Jm (bs n):bY (kc bs) n ()=kc (sI bs n):=by
 unfold sI;have:∀m:List (UInt32×Unit),m=kc (m.map (·.1)):=λm=>by
  simp only[kc,ub0];induction m with
  |nil=>rfl
  |cons x m ih=>rw[Hh,<-ih];rfl
 exact this _
attribute [local irreducible] WS LS OpQ y6 cn cv Spec bA aK
variable (w0:World)
theorem Ec (gt r self) (bs:List (Nat×Nat)) (ls:List Ln) (hlen:bs.length=ls.length) (hb:∀l∈ls,l.before.length<=12) (d now):
 Spec ucC w0 175 [ptr gt 0,u32 d,u64 now] (dO gt r self bs ls) (λp:Option Addr×Nat=>fX (bR ls d now) p) (λp=>fW (bR ls d now) p*dO gt r self bs ls):=by
 have xj:=l3 (d:=d) hlen
 refine eZ Tryz.func175 Tryz.ntmps175 λG=> ?_
 simp only[aN]
 cases hf:cN ls d with
 |none=>
  have hm:=xj hf
  have hv:=n9 (w0:=w0) (g:=gt) (r:=r) (self:=self) (bs:=bs) (ls:=ls) (d:=d) (F:=dN bs ls) hm
  have ju:bR ls d now=none:=by simp[bR,jI hf]
  simp only[ju,fX,fW,dO]
  repeat' (first|intro K hK|intro hc|refine xyZ ?_|refine aF ?_ ?_|refine bT λg=> ?_|refine bQ λg=> ?_|refine cZ hv λu=> ?_)
  exact dF (.inl rfl) rfl (aS rfl iI iI rfl) (bh rfl) ⟨(none,0),rfl,ah⟩
 |some i=>
  obtain⟨b,rb,l,F,hl,hd,hm,e,e'⟩:=l4 (g:=gt) (r:=r) (self:=self) hlen hf
  have hv:=zby (w0:=w0) (g:=gt) (r:=r) (self:=self) (bs:=bs) (ls:=ls) (d:=d) (l:=l) (rb:=rb) (F:=mp u32 jO rb (kc l.before)*F) hm
  have hc:=uy w0 b rb l (hb l (jq hl))
  simp only[cU,bM]at hv hc
  by_cases h1:l.valid=true
  ·by_cases h2:l.cB<=now
   ·have ju:bR ls d now=none:=by
     have:¬now<l.cB:=by rw[WC];have:=YI.1 h2;omega
     simp[bR,eO hf hl,this]
    simp only[ju,fX,fW,e,cU]
    rw[h1]at hv ⊢
    repeat' (first|intro K hK|intro hc|refine xyZ ?_|refine aF ?_ ?_|refine bT λg=> ?_|refine bQ λg=> ?_|refine cZ hv λu=> ?_)
    exact dF (.inl rfl) rfl (aS rfl iI iI rfl) (bh rfl) ⟨(none,0),rfl,ah⟩
   ·have ju:bR ls d now=some l:=by
     have:now<l.cB:=by rw[WC];have:=mt YI.2 h2;omega
     simp[bR,eO hf hl,this,h1]
    simp only[ju,fX,fW,e,cU,bM]
    rw[h1]at hv hc ⊢
    repeat' (first|intro K hK|intro hc|refine xyZ ?_|refine aF ?_ ?_|refine bT λg=> ?_|refine bQ λg=> ?_|refine cZ hv λu=> ?_|refine cZ hc λvb=> ?_)
    exact dF (.inl rfl) rfl (aS rfl iI iI rfl) (bh rfl) ⟨vb,rfl,ah⟩
  ·have xc:l.valid=false:=by simpa using h1
   have ju:bR ls d now=none:=by simp[bR,eO hf hl,xc]
   simp only[ju,fX,fW,e,cU]
   rw[xc]at hv ⊢
   repeat' (first|intro K hK|intro hc|refine xyZ ?_|refine aF ?_ ?_|refine bT λg=> ?_|refine bQ λg=> ?_|refine cZ hv λu=> ?_)
   exact dF (.inl rfl) rfl (aS rfl iI iI rfl) (bh rfl) ⟨(none,0),rfl,ah⟩
theorem Al (gt r self) (bs:List (Nat×Nat)) (ls:List Ln) (hlen:bs.length=ls.length) (d nb):
 Spec ucC w0 176 [ptr gt 0,u32 d,u32 nb] (dO gt r self bs ls) (λ_:Unit=> .tuple #[]) (λ_=>dO gt r self bs (gF ls d nb)):=by
 have xj:=l3 (d:=d) hlen
 refine eZ Tryz.func176 Tryz.ntmps176 λG=> ?_
 simp only[aN]
 cases hf:cN ls d with
 |none=>
  have hm:=xj hf
  have hv:=n9 (w0:=w0) (g:=gt) (r:=r) (self:=self) (bs:=bs) (ls:=ls) (d:=d) (F:=dN bs ls) hm
  simp only[gF,ng hf,dO]
  repeat' (first|intro hc|refine xyZ ?_|refine aF ?_ ?_|refine cZ hv λu=> ?_)
  exact aj (.inr rfl) rfl ⟨(),rfl,ah⟩
 |some i=>
  obtain⟨b,rb,l,F,hl,hd,hm,e,e'⟩:=l4 (g:=gt) (r:=r) (self:=self) hlen hf
  have hv:=zby (w0:=w0) (g:=gt) (r:=r) (self:=self) (bs:=bs) (ls:=ls) (d:=d) (l:=l) (rb:=rb) (F:=mp u32 jO rb (kc l.before)*F) hm
  have yl:=mg l.before
  by_cases h1:l.valid=true
  ·by_cases h2:l.before.length<4
   ·have ju:gF ls d nb=ls.set i {l with before:=sI l.before nb}:=by simp[gF,fm hf hl,h1,h2]
    rw[ju,e' {l with before:=sI l.before nb} rfl,e]
    simp only[cU]at hv ⊢
    rw[h1]at hv ⊢
    repeat' (first|intro hc|refine xyZ ?_|refine aF ?_ ?_|((refine' bL ?zh ?_);(case zh=>exact dt rfl rfl rfl iI iI iI iI iI);intro g)|refine cZ hv λu=> ?_)
    exact aj (.inr rfl) rfl ⟨(),rfl,by rw[Jm];exact ah⟩
   ·have ju:gF ls d nb=ls.set i l:=by simp[gF,fm hf hl,h2]
    rw[ju,e' l rfl,e]
    simp only[cU]at hv ⊢
    rw[h1]at hv ⊢
    repeat' (first|intro hc|refine xyZ ?_|refine aF ?_ ?_|refine cZ hv λu=> ?_)
    exact aj (.inr rfl) rfl ⟨(),rfl,ah⟩
  ·have xc:l.valid=false:=by simpa using h1
   have ju:gF ls d nb=ls.set i l:=by simp[gF,fm hf hl,xc]
   rw[ju,e' l rfl,e]
   simp only[cU]at hv ⊢
   rw[xc]at hv ⊢
   repeat' (first|intro hc|refine xyZ ?_|refine aF ?_ ?_|refine cZ hv λu=> ?_)
   exact aj (.inr rfl) rfl ⟨(),rfl,ah⟩
theorem EG (gt r self) (bs:List (Nat×Nat)) (ls:List Ln) (hlen:bs.length=ls.length) (src d s):
 Spec ucC w0 178 [ptr gt 0,u32 src,.agg #[u32 d,u32 s]] (dO gt r self bs ls) (λ_:Unit=> .tuple #[u32 (if fR ls src d then eJ (iS ls src d s) d else 0),.bool (fR ls src d),.bool (fR ls src d&&decide (0<((dG ls d).getD Ln.zero).before.length))]) (λ_=>dO gt r self bs (iS ls src d s)):=by
 have xj:=l3 (d:=d) hlen
 refine eZ Tryz.func178 Tryz.ntmps178 λG=> ?_
 simp only[aN]
 cases hf:cN ls d with
 |none=>
  have hm:=xj hf
  have hv:=n9 (w0:=w0) (g:=gt) (r:=r) (self:=self) (bs:=bs) (ls:=ls) (d:=d) (F:=dN bs ls) hm
  have En:fR ls src d=false:=by simp[fR,jI hf]
  simp only[En,iS,ng hf,dO,uan,AT,VC,Gw]
  repeat' (first|intro hc|refine yZ ?_|refine aF ?_ ?_|refine cZ hv λu=> ?_)
  exact qm (.inl rfl) rfl (bh rfl) (bh rfl) (bh rfl) ⟨(),rfl,ah⟩
 |some i=>
  obtain⟨b,rb,l,F,hl,hd,hm,e,e'⟩:=l4 (g:=gt) (r:=r) (self:=self) hlen hf
  have hv:=zby (w0:=w0) (g:=gt) (r:=r) (self:=self) (bs:=bs) (ls:=ls) (d:=d) (l:=l) (rb:=rb) (F:=mp u32 jO rb (kc l.before)*F) hm
  have yl:=mg l.before
  by_cases h1:l.valid=true
  ·by_cases h2:l.next=src
   ·have En:fR ls src d=true:=by simp[fR,eO hf hl,h1,h2]
    have ju:iS ls src d s=ls.set i (l.ended s):=by simp[iS,fm hf hl,h1,h2]
    have OC:dG (ls.set i (l.ended s)) d=some (l.ended s):=CA hf hl hd
    have OB:dG ls d=some l:=eO hf hl
    have Ce:=w4 w0 b rb l s
    simp only[En,ju,e' (l.ended s) rfl,e,eJ,OC,OB,CV,ucb,YZ]
    simp only[cU]at hv Ce ⊢
    rw[h1]at hv Ce ⊢
    by_cases h3:0<l.before.length
    ·rw[Dp h3]
     repeat' (first|intro hc|refine yZ ?_|refine aF ?_ ?_|refine cZ hv λu=> ?_|refine cZ Ce λu=> ?_)
     exact qm (.inl rfl) rfl (bh rfl) (bh rfl) (bh rfl) ⟨(),rfl,ah⟩
    ·rw[EH h3]
     repeat' (first|intro hc|refine yZ ?_|refine aF ?_ ?_|refine cZ hv λu=> ?_|refine cZ Ce λu=> ?_)
     exact qm (.inl rfl) rfl (bh rfl) (bh rfl) (bh rfl) ⟨(),rfl,ah⟩
   ·have En:fR ls src d=false:=by simp[fR,eO hf hl,h2]
    have ju:iS ls src d s=ls.set i l:=by simp[iS,fm hf hl,h2]
    simp only[En,ju,e' l rfl,e,uan,AT,VC,Gw]
    simp only[cU]at hv ⊢
    rw[h1]at hv ⊢
    repeat' (first|intro hc|refine yZ ?_|refine aF ?_ ?_|refine cZ hv λu=> ?_)
    exact qm (.inl rfl) rfl (bh rfl) (bh rfl) (bh rfl) ⟨(),rfl,ah⟩
  ·have xc:l.valid=false:=by simpa using h1
   have En:fR ls src d=false:=by simp[fR,eO hf hl,xc]
   have ju:iS ls src d s=ls.set i l:=by simp[iS,fm hf hl,xc]
   simp only[En,ju,e' l rfl,e,uan,AT,VC,Gw]
   simp only[cU]at hv ⊢
   rw[xc]at hv ⊢
   repeat' (first|intro hc|refine yZ ?_|refine aF ?_ ?_|refine cZ hv λu=> ?_)
   exact qm (.inl rfl) rfl (bh rfl) (bh rfl) (bh rfl) ⟨(),rfl,ah⟩
end
section
open Go.RowKit
theorem qL {α:Type} {l:List α} {i:Nat} {k x:α} (hn:l.Nodup) (h:l[i]? =some k):x∈l.eraseIdx i↔x∈l/\x≠k:=by
 obtain⟨bW,he⟩:=az.1 h;have hp:(k::l.eraseIdx i).Perm l:=he▸List.zaq bW;have vT:=(hp.nodup_iff).2 hn;rw[<-hp.mem_iff,JA];constructor
 ·intro hx;exact⟨.inr hx,λe=>(uaA.1 vT).1 (e▸hx)⟩
 ·rintro⟨rfl|hx,mi⟩
  ·exact absurd rfl mi
  ·exact hx
def aO (ls:List Ln):List UInt32:=ls.map (·.dest)
theorem nf:∀{bs:List (Nat×Nat)} {ls:List Ln},bs.length=ls.length->(lmap bs ls).map (·.1)=aO ls
 |[],[],_=>rfl
 |b::bs,l::ls,h=>by
  show l.dest::(lmap bs ls).map (·.1)=_;rw[nf (by simpa using h)];rfl
 |[],_::_,h=>by simp at h
 |_::_,[],h=>by simp at h
theorem iB:∀{ls:List Ln} {j:Nat} {l:Ln},(aO ls).Nodup->ls[j]? =some l->cN ls l.dest=some j
 |[],_,_,_,h=>by simp at h
 |x::ls,0,l,hn,h=>by simp at h;subst h;simp[cN]
 |x::ls,j+1,l,hn,h=>by
  have hl:ls[j]? =some l:=by simpa using h
  have mi:x.dest≠l.dest:=λe=>(uaA.1 hn).1 (by show x.dest∈_;rw[e];exact HC.2 ⟨l,jq hl,rfl⟩);simp only[cN,eQ mi];rw[iB (uaA.1 hn).2 hl];rfl
def oh (now:UInt64) (left:List (UInt32×Nat)) (ls:List Ln):List Ln:=ls.map λl=>if l.dest∈left.map (·.1)then l else l.exp now
theorem Hf {now} {bs:List (Nat×Nat)} {ls:List Ln} (hlen:bs.length=ls.length):oh now (lmap bs ls) ls=ls:=by
 unfold oh;rw[nf hlen];conv=>rhs;rw[<-List.map_id ls]
 apply Z8;intro l hl;have:l.dest∈aO ls:=HC.2 ⟨l,hl,rfl⟩;rw[jF this];rfl
theorem zk {now ls}:oh now [] ls=mE now ls:=by
 unfold oh mE;simp
theorem JI (now) (l:Ln):(l.exp now).dest=l.dest:=by unfold Ln.exp;split<;>rfl
theorem Eg {now left bs ls}:lmap bs (oh now left ls)=lmap bs ls:=by
 apply zD;intro j;simp only[lmap,oh,Zp,zA];cases bs[j]? <;>cases ls[j]? <;>simp only[EL,uag];rename_i b l;split<;>simp[JI]
theorem Cb {now bs ls}:lmap bs (mE now ls)=lmap bs ls:=by
 have:=Eg (now:=now) (left:=[]) (bs:=bs) (ls:=ls);rwa[zk]at this
theorem Eh {now:UInt64} {left:List (UInt32×Nat)} {ls:List Ln} {i j:Nat} {k:UInt32} {b:Nat} {l:Ln} (hn:(aO ls).Nodup) (P8:(left.map (·.1)).Nodup) (hi:left[i]? =some (k,b)) (hl:ls[j]? =some l) (hk:l.dest=k):
 (oh now left ls)[j]? =some l/\(oh now left ls).set j (l.exp now)=oh now (left.eraseIdx i) ls:=by
 have xk:k∈left.map (·.1):=HC.2 ⟨_,jq hi,rfl⟩
 have Em:∀x,x∈(left.eraseIdx i).map (·.1)↔x∈left.map (·.1)/\x≠k:=by
  intro x;have h2:(left.eraseIdx i).map (·.1)=(left.map (·.1)).eraseIdx i:=fg _ _ _;have h3:(left.map (·.1))[i]? =some k:=by simp[hi]
  rw[h2,qL P8 h3]
 refine⟨by simp only[oh,zA,hl,EL];rw[jF (hk▸xk)],?_⟩
 apply zD
 intro m
 have bW:=(az.1 hl).1
 rw[Dg]
 simp only[oh,zA,Hu]
 by_cases e:j=m
 ·subst e
  rw[jF rfl,jF bW,hl,EL,eQ]
  rw[Em,hk];simp
 ·rw[eQ e]
  cases hm:ls[m]? with
  |none=>rfl
  |some x=>
   simp only[EL]
   have mi:x.dest≠k:=λhx=>e (by
    have h1:=iB hn hl
    have h2:=iB hn hm
    rw[hk]at h1;rw[hx,h1]at h2;exact PL h2)
   congr 1
   by_cases hx:x.dest∈left.map (·.1)
   ·rw[jF hx,jF ((Em _).2 ⟨hx,mi⟩)]
   ·rw[eQ hx,eQ (λh=>hx ((Em _).1 h).1)]
theorem xy {bs ls k b} (h:(k,b)∈lmap bs ls):∃(j rb:Nat) (l:Ln),ls[j]? =some l/\bs[j]? =some (b,rb)/\l.dest=k:=by
 obtain⟨j,hj⟩:=JC h;simp only[lmap,Zp]at hj;cases hb:bs[j]? with
 |none=>rw[hb]at hj;simp at hj
 |some b0=>
  cases hl:ls[j]? with
  |none=>rw[hb,hl]at hj;simp at hj
  |some l=>
   rw[hb,hl]at hj;simp only[Z9,ua9]at hj;obtain⟨b1,rb⟩:=b0;exact⟨j,rb,l,hl,by simp only at hj;rw[<-hj.2];exact hb,hj.1⟩
attribute [local irreducible] WS LS OpQ y6 cn cv Spec bA aK
variable (w0:World)
theorem Az (gt r self) (bs:List (Nat×Nat)) (ls:List Ln) (hlen:bs.length=ls.length) (hn:(aO ls).Nodup) (now):
 Spec ucC w0 115 [ptr gt 0,u64 now] (dO gt r self bs ls) (λ_:Unit=> .tuple #[]) (λ_=>dO gt r self bs (mE now ls)):=by
 refine eZ Tryz.func115 Tryz.ntmps115 λG=> ?_
 simp only[aN,dO]
 repeat' (first|intro K hK|refine ax ?_|(refine ai (vC rfl iI iI) rfl ?_;intro it))
 refine aV (λk τ=>∃(left:List (UInt32×Nat)) (cur:Option (UInt32×Nat)),left.length=k/\left.Sublist (lmap bs ls)/\τ=⟨[(10,ptr it 0),(1,u64 now)],[],Bs u32 gw r it (lmap bs ls) left cur*(dN bs (oh now left ls)*(aK gt 216 [u32 self,.map (some r)]*G))⟩) ?_ ?_
 ·exact⟨_,_,⟨lmap bs ls,none,rfl,ubb _,rfl⟩,cG,rfl,by rw[Hf hlen];exact ah⟩
 ·rintro k τ ⟨left,cur,hk,ow,rfl⟩
  have P8:(left.map (·.1)).Nodup:=by
   refine(ow.map (·.1)).nodup ?_;rw[nf hlen];exact hn
  repeat' (first|intro hc|refine xyZ ?_|refine aF ?_ ?_|(refine ai (z6 rfl iI) rfl ?_;rintro⟨_|⟨i,z,u⟩,ho⟩<;>simp only[jC.val,jC.rest,jC.now]))
  ·obtain rfl:left=[]:=ho
   refine aj (.inr rfl) rfl ⟨(),rfl,?_⟩
   rw[zk,Cb]
   exact aq.trans aq.qN (ah)
  ·obtain⟨j,rb,l,hl,QN,hd⟩:=xy (ow.subset (jq ho))
   obtain⟨l5,jf⟩:=Eh (now:=now) hn P8 ho hl hd
   obtain⟨F,h1,h2⟩:=kK QN l5
   have h3:=h2 (l.exp now)
   rw[jf]at h3
   have bW:=(az.1 ho).1
   have Kb:(left.eraseIdx i).Sublist (lmap bs ls):=(W8 left i).trans ow
   have Ce:=w4 w0 u rb l 0
   rw[h1]
   simp only[lu]
   by_cases c1:l.valid=true
   ·by_cases c2:l.cB<=now
    ·have hx:l.exp now=l.ended 0:=by simp[Ln.exp,c1,c2]
     rw[hx]at h3
     simp only[cU]at Ce ⊢
     rw[c1]at Ce ⊢
     repeat' (first|intro hc|refine xyZ ?_|refine aF ?_ ?_|(refine lI (pq rfl iI) rfl ?_)|refine cZ Ce λu2=> ?_)
     exact⟨k - 1,_,by omega,⟨left.eraseIdx i,some (z,u),by rw[NV,jF bW,hk],Kb,rfl⟩,cG,rfl,by rw[h3];simp only[lu,cU];exact ah⟩
    ·have hx:l.exp now=l:=by simp[Ln.exp,c2]
     rw[hx]at h3
     simp only[cU]
     rw[c1]
     repeat' (first|intro hc|refine xyZ ?_|refine aF ?_ ?_|(refine lI (pq rfl iI) rfl ?_))
     exact⟨k - 1,_,by omega,⟨left.eraseIdx i,some (z,u),by rw[NV,jF bW,hk],Kb,rfl⟩,cG,rfl,by rw[h3];simp only[lu,cU,c1];exact ah⟩
   ·have Tv:l.valid=false:=by simpa using c1
    have hx:l.exp now=l:=by simp[Ln.exp,Tv]
    rw[hx]at h3
    simp only[cU]
    rw[Tv]
    repeat' (first|intro hc|refine xyZ ?_|refine aF ?_ ?_|(refine lI (pq rfl iI) rfl ?_))
    exact⟨k - 1,_,by omega,⟨left.eraseIdx i,some (z,u),by rw[NV,jF bW,hk],Kb,rfl⟩,cG,rfl,by rw[h3];simp only[lu,cU,Tv];exact ah⟩
end
end Go.Proofs.YtapoehkdnglahabGreat
