/- A part of what Nodes needs. -/
import Derived.Test.YtapoehkdnglahabGreatNodesGe
set_option maxHeartbeats 8000000
set_option maxRecDepth 100000
set_option linter.unusedVariables false
set_option linter.unusedSimpArgs false
set_option linter.unusedSectionVars false
namespace Go.Proofs.YtapoehkdnglahabGreat
section
open Go.RowKit
structure Ln where
 dest:UInt32
 seq:UInt32
 aH:Int
 next:UInt32
 valid:Bool
 cB:UInt64
 before:List UInt32
deriving DecidableEq
def bS (x:UInt32):UInt32:=if x+1=0 then x else x+1
def Ln.rk (l:Ln):Int:=if l.valid then(l.seq.toNat:Int)else(l.seq.toNat:Int) - 1
def Ln.ended (l:Ln) (s:UInt32):Ln:={l with seq:=max (bS l.seq) s,valid:=false,cB:=0,before:=[]}
def cN:List Ln→UInt32→Option Nat
 |[],_=>none
 |l::r,d=>if l.dest=d then some 0 else(cN r d).map (·+1)
theorem dw:∀{ls:List Ln} {d:UInt32} {i:Nat},cN ls d=some i→∃l,ls[i]? =some l∧l.dest=d
 |[],_,_,h=>by cases h
 |l::r,d,i,h=>by
  simp only[cN]at h
  split at h
  ·rename_i e;cases h;exact⟨l,rfl,e⟩
  ·cases hr:cN r d with
   |none=>rw[hr]at h;cases h
   |some j=>rw[hr]at h;cases h;obtain⟨l',h1,h2⟩:=dw hr;exact⟨l',by simpa using h1,h2⟩
theorem lN:∀{ls:List Ln} {d:UInt32},cN ls d=none↔∀l∈ls,l.dest≠d
 |[],_=>by simp[cN]
 |l::r,d=>by
  simp only[cN]
  split
  ·rename_i e;simp[e]
  ·rename_i e
   rw[Option.map_eq_none_iff,lN]
   simp[e]
def dG (ls:List Ln) (d:UInt32):Option Ln:=(cN ls d).bind (ls[·]?)
def lP (ls:List Ln) (d:UInt32) (f:Ln→Ln):List Ln:=match cN ls d with
 |some i=>ls.modify i f
 |none=>ls
theorem eO {ls:List Ln} {d:UInt32} {i:Nat} {l:Ln} (h:cN ls d=some i) (hl:ls[i]? =some l):dG ls d=some l:=by simp[dG,h,hl]
theorem jI {ls:List Ln} {d:UInt32} (h:cN ls d=none):dG ls d=none:=by simp[dG,h]
theorem fm {ls:List Ln} {d:UInt32} {i:Nat} {l:Ln} {f:Ln→Ln} (h:cN ls d=some i) (hl:ls[i]? =some l):lP ls d f=ls.set i (f l):=by
 simp only[lP,h]
 apply List.ext_getElem?
 intro j
 rw[List.getElem?_modify,List.getElem?_set]
 by_cases e:i=j
 ·subst e
  obtain⟨h1,h2⟩:=List.getElem?_eq_some_iff.1 hl
  simp[h1,h2]
 ·simp[e]
theorem ng {ls:List Ln} {d:UInt32} {f:Ln→Ln} (h:cN ls d=none):lP ls d f=ls:=by simp[lP,h]
theorem zv:∀{ls:List Ln} {d:UInt32} {i:Nat} {l l':Ln},ls[i]? =some l→l'.dest=l.dest→cN (ls.set i l') d=cN ls d
 |[],_,_,_,_,h,_=>by simp at h
 |x::ls,d,0,l,l',h,hd=>by simp at h;subst h;simp[cN,hd]
 |x::ls,d,i+1,l,l',h,hd=>by
  rw[List.set_cons_succ];simp only[cN];rw[zv (by simpa using h) hd]
theorem CA {ls:List Ln} {d:UInt32} {i:Nat} {l l':Ln} (hf:cN ls d=some i) (hl:ls[i]? =some l) (hd:l'.dest=d) (rU:l.dest=d:=by assumption):dG (ls.set i l') d=some l':=
 eO ((zv hl (hd.trans rU.symm)).trans hf) (by simp[(List.getElem?_eq_some_iff.1 hl).1])
def j8 (ls:List Ln) (x:Ln):List Ln:=match cN ls x.dest with
 |some i=>ls.set i x
 |none=>ls++[x]
def dI (self:UInt32) (ls:List Ln) (x:Ln):Int×List Ln:=
 if x.dest=self∨x.dest=0 then(2,ls)else
 match dG ls x.dest with
 |some l=>if(x.seq.toNat:Int)<l.rk∨(x.seq.toNat:Int)=l.rk∧ -x.aH≤ -l.aH then(3,ls)else(0,j8 ls {x with valid:=true,before:=[]})
 |none=>if 8≤ls.length then(4,ls)else(0,j8 ls {x with valid:=true,before:=[]})
def eJ (ls:List Ln) (d:UInt32):UInt32:=match dG ls d with
 |some l=>l.seq
 |none=>0
def bR (ls:List Ln) (d:UInt32) (now:UInt64):Option Ln:=match dG ls d with
 |some l=>if l.valid=true∧now<l.cB then some l else none
 |none=>none
def iY (ls:List Ln) (d:UInt32) (e:UInt64):List Ln:=lP ls d fun l=>if l.valid then {l with cB:=max l.cB e}else l
def sI (bs:List UInt32) (n:UInt32):List UInt32:=(bY (bs.map (·,())) n ()).map (·.1)
def gF (ls:List Ln) (d nb:UInt32):List Ln:=lP ls d fun l=>if l.valid=true∧l.before.length<4 then {l with before:=sI l.before nb}else l
def ia (ls:List Ln) (d:UInt32):List Ln:=lP ls d fun l=>{l with seq:=bS l.seq}
def fR (ls:List Ln) (src d:UInt32):Bool:=match dG ls d with
 |some l=>l.valid&&decide (l.next=src)
 |none=>false
def iS (ls:List Ln) (src d s:UInt32):List Ln:=lP ls d fun l=>if l.valid=true∧l.next=src then l.ended s else l
def Ln.exp (now:UInt64) (l:Ln):Ln:=if l.valid=true∧l.cB≤now then l.ended 0 else l
def mE (now:UInt64) (ls:List Ln):List Ln:=ls.map (Ln.exp now)
def Ln.brk (nb:UInt32) (l:Ln):Ln:=if l.valid=true∧l.next=nb then l.ended 0 else l
def bM (l:Ln) (b:Value):List Value:=[u32 l.dest,u32 l.seq,.int .i64 l.aH,u32 l.next,.bool l.valid,u64 l.cB,b]
def cU (l:Ln) (rb:Nat):List Value:=[u32 l.dest,u32 l.seq,.int .i64 l.aH,u32 l.next,.bool l.valid,u64 l.cB,.slice none 0 0,.map (some rb)]
def kc (bs:List UInt32):List (UInt32×Unit):=bs.map (·,())
def lu (b rb:Nat) (l:Ln):af:=aK b 230 (cU l rb)*mp u32 jO rb (kc l.before)
def dN:List (Nat×Nat)→List Ln→af
 |b::bs,l::ls=>lu b.1 b.2 l*dN bs ls
 |_,_=>emp
def lmap (bs:List (Nat×Nat)) (ls:List Ln):List (UInt32×Nat):=List.zipWith (fun b l=>(l.dest,b.1)) bs ls
def dO (g r:Nat) (self:UInt32) (bs:List (Nat×Nat)) (ls:List Ln):af:=aK g 216 [u32 self,.map (some r)]*(mp u32 gw r (lmap bs ls)*dN bs ls)
def dR (g:Nat) (self:UInt32) (ls:List Ln):af:=hex fun x:Nat×List (Nat×Nat)=>pure' (x.2.length=ls.length)*dO g x.1 self x.2 ls
theorem lT:∀(bs:List (Nat×Nat)) (ls:List Ln) (d:UInt32),bs.length=ls.length→dT (lmap bs ls) d=cN ls d
 |[],[],_,_=>rfl
 |b::bs,l::ls,d,h=>by
  have ih:=lT bs ls d (by simpa using h)
  show(if l.dest=d then some 0 else(dT (lmap bs ls) d).map (·+1))=_
  rw[ih];rfl
 |[],_::_,_,h=>by simp at h
 |_::_,[],_,h=>by simp at h
theorem Kj {bs:List (Nat×Nat)} {ls:List Ln} {i:Nat} {b:Nat×Nat} {l:Ln} (hb:bs[i]? =some b) (hl:ls[i]? =some l):(lmap bs ls)[i]? =some (l.dest,b.1):=by
 simp[lmap,List.getElem?_zipWith,hb,hl]
theorem Kk {bs:List (Nat×Nat)} {ls:List Ln} {i:Nat} {l l':Ln} (hl:ls[i]? =some l) (hd:l'.dest=l.dest):lmap bs (ls.set i l')=lmap bs ls:=by
 apply List.ext_getElem?
 intro j
 simp only[lmap,List.getElem?_zipWith,List.getElem?_set]
 by_cases e:i=j
 ·subst e
  have bW:=(List.getElem?_eq_some_iff.1 hl).1
  simp only[if_true,bW,hl]
  cases bs[i]? <;>simp[hd]
 ·simp[e]
theorem kK:∀{bs:List (Nat×Nat)} {ls:List Ln} {i:Nat} {b:Nat×Nat} {l:Ln},bs[i]? =some b→ls[i]? =some l→
 ∃F,dN bs ls=lu b.1 b.2 l*F∧∀l',dN bs (ls.set i l')=lu b.1 b.2 l'*F
 |b0::bs,l0::ls,0,b,l,hb,hl=>by
  simp at hb hl;subst hb;subst hl
  exact⟨dN bs ls,rfl,fun _=>rfl⟩
 |b0::bs,l0::ls,i+1,b,l,hb,hl=>by
  obtain⟨F,h1,h2⟩:=kK (bs:=bs) (ls:=ls) (i:=i) (by simpa using hb) (by simpa using hl)
  exact⟨lu b0.1 b0.2 l0*F,by rw[dN,h1,aM],fun l'=>by rw[List.set_cons_succ,dN,h2,aM]⟩
 |[],_,_,_,_,hb,_=>by simp at hb
 |_::_,[],_,_,_,_,hl=>by simp at hl
theorem sd:∀{bs:List (Nat×Nat)} {ls:List Ln} {i:Nat} {b:Nat×Nat} {l:Ln},bs[i]? =some b→ls[i]? =some l→
 ∃F,dN bs ls=lu b.1 b.2 l*F∧∀b' l',dN (bs.set i b') (ls.set i l')=lu b'.1 b'.2 l'*F
 |b0::bs,l0::ls,0,b,l,hb,hl=>by
  simp at hb hl;subst hb;subst hl
  exact⟨dN bs ls,rfl,fun _ _=>rfl⟩
 |b0::bs,l0::ls,i+1,b,l,hb,hl=>by
  obtain⟨F,h1,h2⟩:=sd (bs:=bs) (ls:=ls) (i:=i) (by simpa using hb) (by simpa using hl)
  exact⟨lu b0.1 b0.2 l0*F,by rw[dN,h1,aM],fun b' l'=>by rw[List.set_cons_succ,List.set_cons_succ,dN,h2,aM]⟩
 |[],_,_,_,_,hb,_=>by simp at hb
 |_::_,[],_,_,_,_,hl=>by simp at hl
theorem uE:∀{bs:List (Nat×Nat)} {ls:List Ln} (b:Nat×Nat) (l:Ln),bs.length=ls.length→dN (bs++[b]) (ls++[l])=lu b.1 b.2 l*dN bs ls
 |[],[],b,l,_=>rfl
 |b0::bs,l0::ls,b,l,h=>by
  show lu b0.1 b0.2 l0*dN (bs++[b]) (ls++[l])=_
  rw[uE b l (by simpa using h),aM];rfl
 |[],_::_,_,_,h=>by simp at h
 |_::_,[],_,_,h=>by simp at h
theorem yC {bs:List (Nat×Nat)} {ls:List Ln} {x:Ln} (b:Nat×Nat) (hlen:bs.length=ls.length) (h:cN ls x.dest=none):bY (lmap bs ls) x.dest b.1=lmap (bs++[b]) (ls++[x]):=by
 unfold bY
 rw[lT bs ls _ hlen,h]
 simp only[lmap]
 rw[List.zipWith_append hlen];rfl
theorem yD {bs:List (Nat×Nat)} {ls:List Ln} {x:Ln} {i:Nat} (b:Nat×Nat) (hlen:bs.length=ls.length) (h:cN ls x.dest=some i):bY (lmap bs ls) x.dest b.1=lmap (bs.set i b) (ls.set i x):=by
 unfold bY
 rw[lT bs ls _ hlen,h]
 obtain⟨l,hl,hd⟩:=dw h
 have bW:=(List.getElem?_eq_some_iff.1 hl).1
 apply List.ext_getElem?
 intro j
 simp only[lmap,List.getElem?_zipWith,List.getElem?_set,List.length_zipWith]
 by_cases e:i=j
 ·subst e;simp[bW,hlen]
 ·simp[e]
theorem l4 {g r:Nat} {self:UInt32} {bs:List (Nat×Nat)} {ls:List Ln} {d:UInt32} {i:Nat} (hlen:bs.length=ls.length) (h:cN ls d=some i):∃(b rb:Nat) (l:Ln) (F:af),ls[i]? =some l∧l.dest=d∧bX (lmap bs ls) d=some b∧
 dO g r self bs ls=aK g 216 [u32 self,.map (some r)]*(mp u32 gw r (lmap bs ls)*(aK b 230 (cU l rb)*(mp u32 jO rb (kc l.before)*F)))∧
 ∀l',l'.dest=l.dest→dO g r self bs (ls.set i l')=aK g 216 [u32 self,.map (some r)]*(mp u32 gw r (lmap bs ls)*(aK b 230 (cU l' rb)*(mp u32 jO rb (kc l'.before)*F))):=by
 obtain⟨l,hl,hd⟩:=dw h
 obtain⟨b,hb⟩:∃b,bs[i]? =some b:=⟨_,List.getElem?_eq_getElem (by rw[hlen];exact(List.getElem?_eq_some_iff.1 hl).1)⟩
 obtain⟨F,h1,h2⟩:=kK hb hl
 refine⟨b.1,b.2,l,F,hl,hd,?_,?_,fun l' ON=> ?_⟩
 ·unfold bX
  rw[lT bs ls d hlen,h]
  simp[Kj hb hl]
 ·unfold dO;rw[h1];unfold lu;rw[ad]
 ·unfold dO;rw[h2,Kk hl ON];unfold lu;rw[ad]
theorem l3 {bs:List (Nat×Nat)} {ls:List Ln} {d:UInt32} (hlen:bs.length=ls.length) (h:cN ls d=none):bX (lmap bs ls) d=none:=by
 unfold bX;rw[lT bs ls d hlen,h]
theorem aq.dR {g r:Nat} {self:UInt32} {bs:List (Nat×Nat)} {ls:List Ln} {H F:af} (hlen:bs.length=ls.length) (h:aq H (dO g r self bs ls*F)):aq H (dR g self ls*F):=
 aq.trans h (aq.trans (aq.ji hlen (aq.refl _)) (aq.trans (aq.of_eq (ad _ _ _).symm) (aq.qA (p:=fun x:Nat×List (Nat×Nat)=>pure' (x.2.length=ls.length)*dO g x.1 self x.2 ls) (r,bs))))
theorem Spec.dR {P:Program} {w0:World} {f:FuncId} {args:List Value} {g:Nat} {self:UInt32} {ls:List Ln} {X:af} {α:Type} {res:α→Value} {post:α→af} (h:∀r bs,bs.length=ls.length→Spec P w0 f args (dO g r self bs ls*X) res post):Spec P w0 f args (dR g self ls*X) res post:=fun G w hs=>by
 have iu:Sat w0 w (hex (fun x:Nat×List (Nat×Nat)=>pure' (x.2.length=ls.length)*dO g x.1 self x.2 ls)*(X*G)):=hs.cast (ad _ _ _)
 obtain⟨x,fP⟩:=iu.ex
 obtain⟨hl,qI⟩:=(fP.cast (ad _ _ _)).pure
 exact h x.1 x.2 hl G w (qI.cast (ad _ _ _).symm)
end
section
open Go.RowKit
attribute [local irreducible] WS LS cD eM cn cv Spec bA aK
variable (w0:World)
theorem mW (x:UInt32):Spec Tryz.prog w0 59 [u32 x] emp (fun _:Unit=>u32 (if x+1=0 then x else x+1)) (fun _=>emp):=by
 refine Spec.enter Tryz.func59 rfl Tryz.ntmps59 rfl fun G=> ?_
 simp only[aN]
 repeat' (first|(refine ab ?_;intro K hK)|(refine hK _ ?_;clear hK K)|refine ax ?_|(refine aF ?_ ?_<;>intro hc<;>(try simp only[cS]at hc)<;>(try exact aG))|refine az ?_|((refine' LQ ?zh rfl ?_);case zh=>intro F';exact bE rfl rfl iI)|fail)
 all_goals exact aC (.inl rfl) rfl rfl ⟨(),by simp[*],aq.refl _⟩
theorem zg (p:Pk) (hp:p.Ok) (v:Value) (X:af) [hX:eX w0 X v (UInt32×UInt32) 2 bB p.lost]:Spec Tryz.prog w0 212 [p.val v] X (fun _:Unit=> .bool (decide p.Fits)) (fun _=>X):=by
 obtain⟨⟨t1,t2⟩,⟨k1,k2⟩,⟨h1,h2⟩,hl,hs⟩:=hp
 refine Spec.enter Tryz.func212 rfl Tryz.ntmps212 rfl fun G=> ?_
 simp only[aN,Pk.val,Pk.cells]
 cases hu:p.unknown
 repeat' (first|(refine ab ?_;intro K hK)|(refine hK _ ?_;clear hK K)|refine ax ?_|(refine aF ?_ ?_<;>intro hc<;>(try simp only[cS]at hc)<;>(try exact aG))|refine aX ?_|refine az ?_|((first|refine dn rfl rfl iI rfl ?_ ?_|refine dm rfl rfl iI rfl ?_ ?_)<;>intro hc)|(refine bT ?_;intro g))
 all_goals refine aC (.inl rfl) rfl rfl ⟨(),?_,aq.drop _ _⟩
 all_goals congr 1
 all_goals try(have:=congrArg List.length ‹p.ar=[]›;simp only[List.length_nil]at this)
 all_goals simp[Pk.Fits, *]
 all_goals have e1:p.lost=[]↔p.lost.length=0:=by simp
 all_goals try simp only[e1]
 all_goals first|omega|(intros;omega)
end
section
open Go.RowKit
theorem NQ:u64 0= .int .u64 0:=rfl
theorem Gw:u32 0= .int .u32 0:=rfl
theorem lx {P:Program} {n:fT} {E:Env} {H:af} {w0:World} {d:Option Tmp} {src t ty:TypeId} {pos:String} {after:Array Edge} {gu:Option (Nat×Bool)} {x:Operand} {v:Value} {a:UInt32} {ds:TypeDesc} (hx:E.ev x=some v) (hv:ej v a) (hs:eN P src ds) (hd:eN P t (.int .i64)):cD P n w0 ⟨d,.convert src t x,ty,pos,after,gu⟩ E H (.int .i64 (a.toNat:Int)):=by
 obtain⟨rfl⟩:=hv
 exact kX hx hs hd (IntWalk.i64_in _ (by have:=a.toNat_lt;omega))
theorem IL {P:Program} {n:fT} {w0:World} {E:Env} {H F:af} {d:Option Tmp} {x:Operand} {r:Nat} {κ ν:Type} {fk:κ→Value} {fv:ν→Value} {m:List (κ×ν)} {t kt et ty:TypeId} {pos:String} {after:Array Edge} {gu:Option (Nat×Bool)} (hx:E.ev x=some (.map (some r))) (hl:jQ H r κ ν fk fv m F) (hm:rp P t kt et):
 cn P n w0 ⟨d,.call ⟨.builtin .clear,#[x],#[t]⟩,ty,pos,after,gu⟩ E H (fun _:Unit=> .tuple #[]) (fun _=>mp fk fv r []*F):=by
 refine cn.mk' (pre:=mp fk fv r m) (post:=fun _=>mp fk fv r []) (fun G a w K Q s hs hK=> ?_) hl.eq
 obtain⟨es,clock,l5,h1,h2,h3,hp⟩:=hs.oV
 have hr:(Builtin.clear_ #[t] ty #[.map (some r)]).run P w= .ok (.tuple #[]) {w with heap:=w.heap.setIfInBounds r (.map #[] clock)}:=by
  simp[Builtin.clear_,run_underlying hm.eq,run_getObj_map l5,run_setObj_map l5]
 simp only[Oper.wp,execOp,resolve,invoke,builtin,Sem.run_bind,Sem.run_pure,Result.andThen_ok,List.map_toArray,List.map_cons,List.map_nil,s.ev hx,hr,Oper.upon_value]
 exact hK () _ (Sat.map_mk hp.setObj (by simp) (by simp) (by simp))
attribute [local irreducible] WS LS cD eM cn cv Spec bA aK
variable (w0:World)
theorem oa {g r:Nat} {self:UInt32} {bs:List (Nat×Nat)} {ls:List Ln} {d:UInt32} {b rb:Nat} {l:Ln} {F:af} (hm:bX (lmap bs ls) d=some b):
 Spec Tryz.prog w0 214 [ptr g 0,u32 d] (aK g 216 [u32 self,.map (some r)]*(mp u32 gw r (lmap bs ls)*(aK b 230 (cU l rb)*F))) (fun _:Unit=> .tuple #[ptr b 0,.bool l.valid]) (fun _=>aK g 216 [u32 self,.map (some r)]*(mp u32 gw r (lmap bs ls)*(aK b 230 (cU l rb)*F))):=by
 refine Spec.enter Tryz.func214 rfl Tryz.ntmps214 rfl fun G=> ?_
 simp only[aN,cU]
 repeat' (first|refine ag (id:=2) (.range 11) ?_|(refine ab ?_;intro K hK)|(refine hK _ ?_;clear hK K)|refine ax ?_|refine az ?_|((first|refine' LQ ?zh rfl ?_|refine' bk rfl rfl ?zh ?_|refine' gM rfl rfl rfl ?zh ?_);case zh=>intro F';exact fD rfl rfl iI iI iI iI iI (by assumption))|fail)
 exact de (.inl rfl) rfl rfl rfl ⟨(),rfl,ah⟩
theorem n9 {g r:Nat} {self:UInt32} {bs:List (Nat×Nat)} {ls:List Ln} {d:UInt32} {F:af} (hm:bX (lmap bs ls) d=none):
 Spec Tryz.prog w0 214 [ptr g 0,u32 d] (aK g 216 [u32 self,.map (some r)]*(mp u32 gw r (lmap bs ls)*F)) (fun _:Unit=> .tuple #[.pointer none,.bool false]) (fun _=>aK g 216 [u32 self,.map (some r)]*(mp u32 gw r (lmap bs ls)*F)):=by
 refine Spec.enter Tryz.func214 rfl Tryz.ntmps214 rfl fun G=> ?_
 simp only[aN]
 repeat' (first|refine ag (id:=2) (.range 11) ?_|(refine ab ?_;intro K hK)|(refine hK _ ?_;clear hK K)|refine ax ?_|refine az ?_|((first|refine' LQ ?zh rfl ?_|refine' bk rfl rfl ?zh ?_);case zh=>intro F';exact iJ rfl rfl iI iI iI iI iI (by assumption))|fail)
 exact de (.inl rfl) rfl rfl rfl ⟨(),rfl,ah⟩
theorem w4 (b rb:Nat) (l:Ln) (s:UInt32):Spec Tryz.prog w0 168 [ptr b 0,u32 s] (aK b 230 (cU l rb)*mp u32 jO rb (kc l.before)) (fun _:Unit=> .tuple #[]) (fun _=>aK b 230 (cU (l.ended s) rb)*mp u32 jO rb (kc (l.ended s).before)):=by
 have hg:=mW w0 l.seq
 refine Spec.enter Tryz.func168 rfl Tryz.ntmps168 rfl fun G=> ?_
 simp only[aN,cU]
 repeat' (first|(refine ab ?_;intro K hK)|(refine hK _ ?_;clear hK K)|refine ax ?_|refine az ?_|(refine bQ ?_;intro g)|(refine ai (aa iI rfl hg iI) rfl ?_;intro u)|(refine bL (IL rfl iI iI) ?_;intro u))
 exact aj (.inr rfl) rfl ⟨(),rfl,by simp only[Ln.ended,bS,kc,List.map_nil,NQ];exact ah⟩
theorem HS (b rb:Nat) (l:Ln) (h1:0≤l.aH) (h2:l.aH≤1000):Spec Tryz.prog w0 213 [ptr b 0] (aK b 230 (cU l rb)) (fun _:Unit=> .tuple #[.int .i64 l.rk,.int .i64 (-l.aH)]) (fun _=>aK b 230 (cU l rb)):=by
 refine Spec.enter Tryz.func213 rfl Tryz.ntmps213 rfl fun G=> ?_
 simp only[aN,cU]
 have hs:=l.seq.toNat_lt
 cases hv:l.valid
 all_goals
  repeat' (first|refine ag (id:=4) (.range 9) ?_|(refine ab ?_;intro K hK)|(refine hK _ ?_;clear hK K)|refine ax ?_|(refine aF ?_ ?_<;>intro hc<;>(try simp only[cS]at hc)<;>(try exact aG))|refine az ?_|((first|refine' LQ ?zh rfl ?_|refine' bk rfl rfl ?zh ?_);case zh=>intro F';exact DF rfl (by omega))|(refine lI (lx rfl iI iI iI) rfl ?_))
 all_goals exact de (.inl rfl) rfl rfl rfl ⟨(),by simp[Ln.rk,hv],by rw[←hv];exact ah⟩
theorem A0 (g r:Nat) (self:UInt32) (bs:List (Nat×Nat)) (ls:List Ln) (hlen:bs.length=ls.length) (d:UInt32):Spec Tryz.prog w0 67 [ptr g 0,u32 d] (dO g r self bs ls) (fun _:Unit=> .tuple #[u32 (eJ ls d),.bool (dG ls d).isSome]) (fun _=>dO g r self bs ls):=by
 have xj:=l3 (d:=d) hlen
 cases hf:cN ls d with
 |none=>
  have hm:=xj hf
  simp only[eJ,jI hf,dO]
  refine Spec.enter Tryz.func67 rfl Tryz.ntmps67 rfl fun G=> ?_
  simp only[aN]
  repeat' (first|(refine ab ?_;intro K hK)|(refine hK _ ?_;clear hK K)|refine ax ?_|(refine aF ?_ ?_<;>intro hc<;>(try simp only[cS]at hc)<;>(try exact aG))|refine az ?_|((refine' LQ ?zh rfl ?_);case zh=>intro F';exact iJ rfl rfl iI iI iI iI iI (by assumption))|fail)
  exact de (.inl rfl) rfl rfl rfl ⟨(),rfl,ah⟩
 |some i=>
  obtain⟨b,rb,l,F,hl,hd,hm,e,e'⟩:=l4 (g:=g) (r:=r) (self:=self) hlen hf
  simp only[eJ,eO hf hl,e,cU]
  refine Spec.enter Tryz.func67 rfl Tryz.ntmps67 rfl fun G=> ?_
  simp only[aN]
  repeat' (first|(refine ab ?_;intro K hK)|(refine hK _ ?_;clear hK K)|refine ax ?_|(refine aF ?_ ?_<;>intro hc<;>(try simp only[cS]at hc)<;>(try exact aG))|refine az ?_|((refine' LQ ?zh rfl ?_);case zh=>intro F';exact fD rfl rfl iI iI iI iI iI (by assumption))|fail)
  exact de (.inl rfl) rfl rfl rfl ⟨(),rfl,ah⟩
theorem DW (g r:Nat) (self:UInt32) (bs:List (Nat×Nat)) (ls:List Ln) (hlen:bs.length=ls.length) (d:UInt32):Spec Tryz.prog w0 180 [ptr g 0,u32 d] (dO g r self bs ls) (fun _:Unit=>u32 (eJ (ia ls d) d)) (fun _=>dO g r self bs (ia ls d)):=by
 have xj:=l3 (d:=d) hlen
 cases hf:cN ls d with
 |none=>
  have hm:=xj hf
  simp only[ia,ng hf,eJ,jI hf,dO]
  refine Spec.enter Tryz.func180 rfl Tryz.ntmps180 rfl fun G=> ?_
  simp only[aN]
  repeat' (first|(refine ab ?_;intro K hK)|(refine hK _ ?_;clear hK K)|refine ax ?_|(refine aF ?_ ?_<;>intro hc<;>(try simp only[cS]at hc)<;>(try exact aG))|refine az ?_|((refine' LQ ?zh rfl ?_);case zh=>intro F';exact iJ rfl rfl iI iI iI iI iI (by assumption))|fail)
  exact aC (.inl rfl) rfl rfl ⟨(),rfl,ah⟩
 |some i=>
  obtain⟨b,rb,l,F,hl,hd,hm,e,e'⟩:=l4 (g:=g) (r:=r) (self:=self) hlen hf
  have hg:=mW w0 l.seq
  have T8:dG (ls.set i {l with seq:=bS l.seq}) d=some {l with seq:=bS l.seq}:=CA hf hl hd
  simp only[ia,fm hf hl,eJ,T8,e,e' {l with seq:=bS l.seq} rfl]
  refine Spec.enter Tryz.func180 rfl Tryz.ntmps180 rfl fun G=> ?_
  simp only[aN,cU]
  repeat' (first|(refine ab ?_;intro K hK)|(refine hK _ ?_;clear hK K)|refine ax ?_|(refine aF ?_ ?_<;>intro hc<;>(try simp only[cS]at hc)<;>(try exact aG))|refine az ?_|((refine' LQ ?zh rfl ?_);case zh=>intro F';exact fD rfl rfl iI iI iI iI iI (by assumption))|(refine bQ ?_;intro g)|(refine ai (aa iI rfl hg iI) rfl ?_;intro u))
  exact aC (.inl rfl) rfl rfl ⟨(),rfl,by simp only[bS];exact ah⟩
theorem It (g r:Nat) (self:UInt32) (bs:List (Nat×Nat)) (ls:List Ln) (hlen:bs.length=ls.length) (d:UInt32) (ex:UInt64):Spec Tryz.prog w0 173 [ptr g 0,u32 d,u64 ex] (dO g r self bs ls) (fun _:Unit=> .tuple #[]) (fun _=>dO g r self bs (iY ls d ex)):=by
 have xj:=l3 (d:=d) hlen
 cases hf:cN ls d with
 |none=>
  have hm:=xj hf
  simp only[iY,ng hf,dO]
  have hv:=n9 (w0:=w0) (g:=g) (r:=r) (self:=self) (bs:=bs) (ls:=ls) (d:=d) (F:=dN bs ls) hm
  refine Spec.enter Tryz.func173 rfl Tryz.ntmps173 rfl fun G=> ?_
  simp only[aN]
  repeat' (first|(refine ab ?_;intro K hK)|(refine hK _ ?_;clear hK K)|refine ax ?_|(refine aF ?_ ?_<;>intro hc<;>(try simp only[cS]at hc)<;>(try exact aG))|refine az ?_|(refine ai (aa iI rfl hv iI) rfl ?_;intro u))
  exact aj (.inr rfl) rfl ⟨(),rfl,ah⟩
 |some i=>
  obtain⟨b,rb,l,F,hl,hd,hm,e,e'⟩:=l4 (g:=g) (r:=r) (self:=self) hlen hf
  have hv:=oa (w0:=w0) (g:=g) (r:=r) (self:=self) (bs:=bs) (ls:=ls) (d:=d) (l:=l) (rb:=rb) (F:=mp u32 jO rb (kc l.before)*F) hm
  cases RE:l.valid
  all_goals
   rw[RE]at hv
   simp only[iY,fm hf hl,RE]
   simp only[Bool.false_eq_true,if_false,if_true]
   refine Spec.enter Tryz.func173 rfl Tryz.ntmps173 rfl fun G=> ?_
   simp only[aN,e,cU,RE]at hv ⊢
   repeat' (first|(refine ab ?_;intro K hK)|(refine hK _ ?_;clear hK K)|refine ax ?_|(refine aF ?_ ?_<;>intro hc<;>(try simp only[cS]at hc)<;>(try exact aG))|refine az ?_|((refine' LQ ?zh rfl ?_);case zh=>intro F';exact LV rfl rfl iI iI)|(refine bQ ?_;intro g)|(refine ai (aa iI rfl hv iI) rfl ?_;intro u))
  ·exact aj (.inr rfl) rfl ⟨(),rfl,by rw[e' l rfl];simp only[cU,RE];exact ah⟩
  ·exact aj (.inr rfl) rfl ⟨(),rfl,by rw[e' ⟨l.dest,l.seq,l.aH,l.next,true,max l.cB ex,l.before⟩ rfl];simp only[cU,RE];exact ah⟩
end
section
open Go.RowKit
def aQ (l:List UInt32):List UInt32:=l.mergeSort (fun a b=>decide (a.toNat≤b.toNat))
theorem lX (l:List UInt32):fH (aQ l):=by
 have:=List.pairwise_mergeSort (le:=fun a b:UInt32=>decide (a.toNat≤b.toNat)) (by intro a b c h1 h2;simp at*;omega) (by intro a b;simp;omega) l
 exact this.imp (by simp)
theorem sK {l l0:List UInt32} (hp:l0.Perm l) (s:nz l0):s.l'=aQ l:=
 List.Perm.eq_of_pairwise (fun a b _ _ h1 h2=>UInt32.toNat_inj.1 (Nat.le_antisymm h1 h2)) s.fH (lX l) ((s.perm.trans hp).trans (List.mergeSort_perm l _).symm)
theorem Jl (l:List UInt32):(kc l).map (·.1)=l:=by simp[kc,Function.comp_def]
theorem mg (l:List UInt32):(kc l).length=l.length:=by simp[kc]
@[reducible] def il (l:Ln) (p:Option Addr×Nat):Value:= .slice p.1 (aQ l.before).length p.2
theorem fU {P:Program} {n:fT} {w0:World} {E:Env} {D:List Deferred} {H:af} {ops:Array Oper} {l':List Oper} {Q:Exit→St→Prop} {α:Type} {size:Nat} {f:α→List Value} {l:List α} (v:Value) (hl:eX w0 H v α size f l) (h:∀A cap,v= .slice A l.length cap→LS P n w0 ops Q l' ⟨E,D,H⟩):LS P n w0 ops Q l' ⟨E,D,H⟩:=fun a w g=>by
 obtain⟨A,c,e,_⟩:=(hl.at_ w g.sat).form
 exact h A c e a w g
attribute [local irreducible] WS LS cD eM cn cv Spec bA aK
variable (w0:World)
theorem uy (b rb:Nat) (l:Ln) (hb:l.before.length≤12):Spec Tryz.prog w0 123 [ptr b 0] (aK b 230 (cU l rb)*mp u32 jO rb (kc l.before)) (fun p:Option Addr×Nat=> .agg (bM l (il l p)).toArray) (fun p=>rows 26 1 cA (il l p) (aQ l.before)*(aK b 230 (cU l rb)*mp u32 jO rb (kc l.before))):=by
 have hk:=Cu w0 rb
 have hs:∀gk,Spec Tryz.prog w0 181 [.func (.func 219) #[] [ptr gk 0].toArray] (aK gk 228 [.map (some rb)]*mp u32 jO rb (kc l.before)) (fun p:Value×(l:List UInt32)×nz l=>p.1) (fun p=>pure' (p.2.1.Perm ((kc l.before).map (·.1)))*(rows 26 1 cA p.1 p.2.2.l'*(aK gk 228 [.map (some rb)]*mp u32 jO rb (kc l.before)))):=fun gk=>
  qt w0 iI (Ey w0 (kc l.before) rb gk) (fun xs hx=>by have:=hx.length_eq;simp[mg]at this;omega)
 refine Spec.enter Tryz.func123 rfl Tryz.ntmps123 rfl fun G=> ?_
 simp only[aN,cU]
 repeat' (first|(refine ab ?_;intro K hK)|(refine hK _ ?_;clear hK K)|refine ax ?_|refine az ?_|(refine bT ?_;intro g)|(refine bQ ?_;intro g)|(refine ai (aa iI rfl hk iI) rfl ?_;intro gk)|(refine ai (aa iI rfl (hs gk) iI) rfl ?_;rintro⟨v,l0,sk⟩;refine lH iI fun hp=> ?_;dsimp only;refine fU v iI fun A cap hv=> ?_;subst hv))
 have qZ:l0.Perm l.before:=by rw[←Jl l.before];exact hp
 refine gD (.inl rfl) rfl (aS rfl iI iI rfl) ⟨(A,cap),by simp only[il,←sK qZ sk];rfl,?_⟩
 simp only[il]
 rw[←sK qZ sk]
 exact ah
theorem zM (gt r:Nat) (self:UInt32) (bs:List (Nat×Nat)) (ls:List Ln) (hlen:bs.length=ls.length) (x:Ln) (hx:x.before=[]):Spec Tryz.prog w0 110 [ptr gt 0,.agg (bM x (.slice none 0 0)).toArray] (dO gt r self bs ls) (fun _:Unit=> .tuple #[]) (fun _=>dR gt self (j8 ls x)):=by
 have S9:kc x.before=[]:=by rw[hx];rfl
 refine Spec.enter Tryz.func110 rfl Tryz.ntmps110 rfl fun G=> ?_
 simp only[aN,bM,dO]
 repeat' (first|refine ae (id:=1) (.range 11) 10 [3,5,6] ?_|(refine ab ?_;intro K hK)|(refine hK _ ?_;clear hK K)|refine ax ?_|refine az ?_|(refine bT ?_;intro g)|((refine' dP ?zh rfl rfl ?_);(case zh=>exact dt rfl rfl rfl iI iI iI iI iI);intro g)|(refine aD (ew u32 jO) rfl rfl rfl ?_;intro rb))
 rename_i bx bn
 refine aj (.inr rfl) rfl ⟨(),rfl,?_⟩
 cases hf:cN ls x.dest with
 |none=>
  have e1:j8 ls x=ls++[x]:=by simp only[j8,hf]
  rw[e1,yC (bn,rb) hlen hf]
  refine aq.dR (r:=r) (bs:=bs++[(bn,rb)]) (by simp[hlen]) ?_
  unfold dO
  rw[uE (bn,rb) x hlen]
  simp only[lu,cU,S9]
  exact ah
 |some i=>
  have e1:j8 ls x=ls.set i x:=by simp only[j8,hf]
  obtain⟨l,hl,hd⟩:=dw hf
  obtain⟨b,hb⟩:∃b,bs[i]? =some b:=⟨_,List.getElem?_eq_getElem (by rw[hlen];exact(List.getElem?_eq_some_iff.1 hl).1)⟩
  obtain⟨F,h1,h2⟩:=sd hb hl
  rw[e1,yD (bn,rb) hlen hf,h1]
  refine aq.dR (r:=r) (bs:=bs.set i (bn,rb)) (by simp[hlen]) ?_
  unfold dO
  rw[h2 (bn,rb) x]
  simp only[lu,cU,S9]
  exact ah
end
section
open Go.RowKit
def Ln.zero:Ln:=⟨0,0,0,0,false,0,[]⟩
def fX (o:Option Ln) (p:Option Addr×Nat):Value:=match o with
 |some l=> .tuple #[.agg (bM l (il l p)).toArray,.bool true]
 |none=> .tuple #[.agg (bM Ln.zero (.slice none 0 0)).toArray,.bool false]
def fW (o:Option Ln) (p:Option Addr×Nat):af:=match o with
 |some l=>rows 26 1 cA (il l p) (aQ l.before)
 |none=>emp
theorem Jm (bs:List UInt32) (n:UInt32):bY (kc bs) n ()=kc (sI bs n):=by
 unfold sI
 have:∀m:List (UInt32×Unit),m=kc (m.map (·.1)):=fun m=>by
  simp only[kc,List.map_map]
  induction m with
  |nil=>rfl
  |cons x m ih=>rw[List.map_cons,←ih];rfl
 exact this _
attribute [local irreducible] WS LS cD eM cn cv Spec bA aK
variable (w0:World)
theorem Ec (gt r:Nat) (self:UInt32) (bs:List (Nat×Nat)) (ls:List Ln) (hlen:bs.length=ls.length) (hb:∀l∈ls,l.before.length≤12) (d:UInt32) (now:UInt64):
 Spec Tryz.prog w0 175 [ptr gt 0,u32 d,u64 now] (dO gt r self bs ls) (fun p:Option Addr×Nat=>fX (bR ls d now) p) (fun p=>fW (bR ls d now) p*dO gt r self bs ls):=by
 have xj:=l3 (d:=d) hlen
 refine Spec.enter Tryz.func175 rfl Tryz.ntmps175 rfl fun G=> ?_
 simp only[aN]
 cases hf:cN ls d with
 |none=>
  have hm:=xj hf
  have hv:=n9 (w0:=w0) (g:=gt) (r:=r) (self:=self) (bs:=bs) (ls:=ls) (d:=d) (F:=dN bs ls) hm
  have ju:bR ls d now=none:=by simp[bR,jI hf]
  simp only[ju,fX,fW,dO]
  repeat' (first|(refine ab ?_;intro K hK)|(refine hK _ ?_;clear hK K)|refine ax ?_|(refine aF ?_ ?_<;>intro hc<;>(try simp only[cS]at hc)<;>(try exact aG))|refine az ?_|(refine bT ?_;intro g)|(refine bQ ?_;intro g)|(refine ai (aa iI rfl hv iI) rfl ?_;intro u))
  exact dF (.inl rfl) rfl (aS rfl iI iI rfl) (bh rfl) ⟨(none,0),rfl,ah⟩
 |some i=>
  obtain⟨b,rb,l,F,hl,hd,hm,e,e'⟩:=l4 (g:=gt) (r:=r) (self:=self) hlen hf
  have hv:=oa (w0:=w0) (g:=gt) (r:=r) (self:=self) (bs:=bs) (ls:=ls) (d:=d) (l:=l) (rb:=rb) (F:=mp u32 jO rb (kc l.before)*F) hm
  have hc:=uy w0 b rb l (hb l (List.mem_of_getElem? hl))
  simp only[cU,bM]at hv hc
  by_cases h1:l.valid=true
  ·by_cases h2:l.cB≤now
   ·have ju:bR ls d now=none:=by
     have:¬now<l.cB:=by rw[UInt64.lt_iff_toNat_lt];have:=UInt64.le_iff_toNat_le.1 h2;omega
     simp[bR,eO hf hl,this]
    simp only[ju,fX,fW,e,cU]
    rw[h1]at hv ⊢
    repeat' (first|(refine ab ?_;intro K hK)|(refine hK _ ?_;clear hK K)|refine ax ?_|(refine aF ?_ ?_<;>intro hc<;>(try simp only[cS]at hc)<;>(try exact aG))|refine aX ?_|refine az ?_|(refine bT ?_;intro g)|(refine bQ ?_;intro g)|(refine ai (aa iI rfl hv iI) rfl ?_;intro u))
    exact dF (.inl rfl) rfl (aS rfl iI iI rfl) (bh rfl) ⟨(none,0),rfl,ah⟩
   ·have ju:bR ls d now=some l:=by
     have:now<l.cB:=by rw[UInt64.lt_iff_toNat_lt];have:=mt UInt64.le_iff_toNat_le.2 h2;omega
     simp[bR,eO hf hl,this,h1]
    simp only[ju,fX,fW,e,cU,bM]
    rw[h1]at hv hc ⊢
    repeat' (first|(refine ab ?_;intro K hK)|(refine hK _ ?_;clear hK K)|refine ax ?_|(refine aF ?_ ?_<;>intro hc<;>(try simp only[cS]at hc)<;>(try exact aG))|refine aX ?_|refine az ?_|(refine bT ?_;intro g)|(refine bQ ?_;intro g)|(refine ai (aa iI rfl hv iI) rfl ?_;intro u)|(refine ai (aa iI rfl hc iI) rfl ?_;intro vb))
    exact dF (.inl rfl) rfl (aS rfl iI iI rfl) (bh rfl) ⟨vb,rfl,ah⟩
  ·have xc:l.valid=false:=by simpa using h1
   have ju:bR ls d now=none:=by simp[bR,eO hf hl,xc]
   simp only[ju,fX,fW,e,cU]
   rw[xc]at hv ⊢
   repeat' (first|(refine ab ?_;intro K hK)|(refine hK _ ?_;clear hK K)|refine ax ?_|(refine aF ?_ ?_<;>intro hc<;>(try simp only[cS]at hc)<;>(try exact aG))|refine az ?_|(refine bT ?_;intro g)|(refine bQ ?_;intro g)|(refine ai (aa iI rfl hv iI) rfl ?_;intro u))
   exact dF (.inl rfl) rfl (aS rfl iI iI rfl) (bh rfl) ⟨(none,0),rfl,ah⟩
theorem Al (gt r:Nat) (self:UInt32) (bs:List (Nat×Nat)) (ls:List Ln) (hlen:bs.length=ls.length) (d nb:UInt32):
 Spec Tryz.prog w0 176 [ptr gt 0,u32 d,u32 nb] (dO gt r self bs ls) (fun _:Unit=> .tuple #[]) (fun _=>dO gt r self bs (gF ls d nb)):=by
 have xj:=l3 (d:=d) hlen
 refine Spec.enter Tryz.func176 rfl Tryz.ntmps176 rfl fun G=> ?_
 simp only[aN]
 cases hf:cN ls d with
 |none=>
  have hm:=xj hf
  have hv:=n9 (w0:=w0) (g:=gt) (r:=r) (self:=self) (bs:=bs) (ls:=ls) (d:=d) (F:=dN bs ls) hm
  simp only[gF,ng hf,dO]
  repeat' (first|(refine ab ?_;intro K hK)|(refine hK _ ?_;clear hK K)|refine ax ?_|(refine aF ?_ ?_<;>intro hc<;>(try simp only[cS]at hc)<;>(try exact aG))|refine az ?_|(refine ai (aa iI rfl hv iI) rfl ?_;intro u))
  exact aj (.inr rfl) rfl ⟨(),rfl,ah⟩
 |some i=>
  obtain⟨b,rb,l,F,hl,hd,hm,e,e'⟩:=l4 (g:=gt) (r:=r) (self:=self) hlen hf
  have hv:=oa (w0:=w0) (g:=gt) (r:=r) (self:=self) (bs:=bs) (ls:=ls) (d:=d) (l:=l) (rb:=rb) (F:=mp u32 jO rb (kc l.before)*F) hm
  have yl:=mg l.before
  by_cases h1:l.valid=true
  ·by_cases h2:l.before.length<4
   ·have ju:gF ls d nb=ls.set i {l with before:=sI l.before nb}:=by simp[gF,fm hf hl,h1,h2]
    rw[ju,e' {l with before:=sI l.before nb} rfl,e]
    simp only[cU]at hv ⊢
    rw[h1]at hv ⊢
    repeat' (first|(refine ab ?_;intro K hK)|(refine hK _ ?_;clear hK K)|refine ax ?_|(refine aF ?_ ?_<;>intro hc<;>(try simp only[cS]at hc)<;>(try exact aG))|refine aX ?_|refine az ?_|((refine' bL ?zh ?_);(case zh=>exact dt rfl rfl rfl iI iI iI iI iI);intro g)|(refine ai (aa iI rfl hv iI) rfl ?_;intro u))
    exact aj (.inr rfl) rfl ⟨(),rfl,by rw[Jm];exact ah⟩
   ·have ju:gF ls d nb=ls.set i l:=by simp[gF,fm hf hl,h2]
    rw[ju,e' l rfl,e]
    simp only[cU]at hv ⊢
    rw[h1]at hv ⊢
    repeat' (first|(refine ab ?_;intro K hK)|(refine hK _ ?_;clear hK K)|refine ax ?_|(refine aF ?_ ?_<;>intro hc<;>(try simp only[cS]at hc)<;>(try exact aG))|refine aX ?_|refine az ?_|(refine ai (aa iI rfl hv iI) rfl ?_;intro u))
    exact aj (.inr rfl) rfl ⟨(),rfl,ah⟩
  ·have xc:l.valid=false:=by simpa using h1
   have ju:gF ls d nb=ls.set i l:=by simp[gF,fm hf hl,xc]
   rw[ju,e' l rfl,e]
   simp only[cU]at hv ⊢
   rw[xc]at hv ⊢
   repeat' (first|(refine ab ?_;intro K hK)|(refine hK _ ?_;clear hK K)|refine ax ?_|(refine aF ?_ ?_<;>intro hc<;>(try simp only[cS]at hc)<;>(try exact aG))|refine az ?_|(refine ai (aa iI rfl hv iI) rfl ?_;intro u))
   exact aj (.inr rfl) rfl ⟨(),rfl,ah⟩
theorem EG (gt r:Nat) (self:UInt32) (bs:List (Nat×Nat)) (ls:List Ln) (hlen:bs.length=ls.length) (src d s:UInt32):
 Spec Tryz.prog w0 178 [ptr gt 0,u32 src,.agg #[u32 d,u32 s]] (dO gt r self bs ls) (fun _:Unit=> .tuple #[u32 (if fR ls src d then eJ (iS ls src d s) d else 0),.bool (fR ls src d),.bool (fR ls src d&&decide (0<((dG ls d).getD Ln.zero).before.length))]) (fun _=>dO gt r self bs (iS ls src d s)):=by
 have xj:=l3 (d:=d) hlen
 refine Spec.enter Tryz.func178 rfl Tryz.ntmps178 rfl fun G=> ?_
 simp only[aN]
 cases hf:cN ls d with
 |none=>
  have hm:=xj hf
  have hv:=n9 (w0:=w0) (g:=gt) (r:=r) (self:=self) (bs:=bs) (ls:=ls) (d:=d) (F:=dN bs ls) hm
  have En:fR ls src d=false:=by simp[fR,jI hf]
  simp only[En,iS,ng hf,dO,Bool.false_and,Bool.false_eq_true,if_false,Gw]
  repeat' (first|(refine ab ?_;intro K hK)|(refine hK _ ?_;clear hK K)|refine ax ?_|(refine aF ?_ ?_<;>intro hc<;>(try simp only[cS]at hc)<;>(try exact aG))|refine az ?_|(refine bT ?_;intro g)|(refine ai (aa iI rfl hv iI) rfl ?_;intro u))
  exact qm (.inl rfl) rfl (bh rfl) (bh rfl) (bh rfl) ⟨(),rfl,ah⟩
 |some i=>
  obtain⟨b,rb,l,F,hl,hd,hm,e,e'⟩:=l4 (g:=gt) (r:=r) (self:=self) hlen hf
  have hv:=oa (w0:=w0) (g:=gt) (r:=r) (self:=self) (bs:=bs) (ls:=ls) (d:=d) (l:=l) (rb:=rb) (F:=mp u32 jO rb (kc l.before)*F) hm
  have yl:=mg l.before
  by_cases h1:l.valid=true
  ·by_cases h2:l.next=src
   ·have En:fR ls src d=true:=by simp[fR,eO hf hl,h1,h2]
    have ju:iS ls src d s=ls.set i (l.ended s):=by simp[iS,fm hf hl,h1,h2]
    have OC:dG (ls.set i (l.ended s)) d=some (l.ended s):=CA hf hl hd
    have OB:dG ls d=some l:=eO hf hl
    have Ce:=w4 w0 b rb l s
    simp only[En,ju,e' (l.ended s) rfl,e,eJ,OC,OB,Option.getD_some,Bool.true_and,if_true]
    simp only[cU]at hv Ce ⊢
    rw[h1]at hv Ce ⊢
    by_cases h3:0<l.before.length
    ·rw[decide_eq_true h3]
     repeat' (first|(refine ab ?_;intro K hK)|(refine hK _ ?_;clear hK K)|refine ax ?_|(refine aF ?_ ?_<;>intro hc<;>(try simp only[cS]at hc)<;>(try exact aG))|refine aX ?_|refine az ?_|(refine bT ?_;intro g)|(refine ai (aa iI rfl hv iI) rfl ?_;intro u)|(refine ai (aa iI rfl Ce iI) rfl ?_;intro u))
     exact qm (.inl rfl) rfl (bh rfl) (bh rfl) (bh rfl) ⟨(),rfl,ah⟩
    ·rw[decide_eq_false h3]
     repeat' (first|(refine ab ?_;intro K hK)|(refine hK _ ?_;clear hK K)|refine ax ?_|(refine aF ?_ ?_<;>intro hc<;>(try simp only[cS]at hc)<;>(try exact aG))|refine aX ?_|refine az ?_|(refine bT ?_;intro g)|(refine ai (aa iI rfl hv iI) rfl ?_;intro u)|(refine ai (aa iI rfl Ce iI) rfl ?_;intro u))
     exact qm (.inl rfl) rfl (bh rfl) (bh rfl) (bh rfl) ⟨(),rfl,ah⟩
   ·have En:fR ls src d=false:=by simp[fR,eO hf hl,h2]
    have ju:iS ls src d s=ls.set i l:=by simp[iS,fm hf hl,h2]
    simp only[En,ju,e' l rfl,e,Bool.false_and,Bool.false_eq_true,if_false,Gw]
    simp only[cU]at hv ⊢
    rw[h1]at hv ⊢
    repeat' (first|(refine ab ?_;intro K hK)|(refine hK _ ?_;clear hK K)|refine ax ?_|(refine aF ?_ ?_<;>intro hc<;>(try simp only[cS]at hc)<;>(try exact aG))|refine aX ?_|refine az ?_|(refine bT ?_;intro g)|(refine ai (aa iI rfl hv iI) rfl ?_;intro u))
    exact qm (.inl rfl) rfl (bh rfl) (bh rfl) (bh rfl) ⟨(),rfl,ah⟩
  ·have xc:l.valid=false:=by simpa using h1
   have En:fR ls src d=false:=by simp[fR,eO hf hl,xc]
   have ju:iS ls src d s=ls.set i l:=by simp[iS,fm hf hl,xc]
   simp only[En,ju,e' l rfl,e,Bool.false_and,Bool.false_eq_true,if_false,Gw]
   simp only[cU]at hv ⊢
   rw[xc]at hv ⊢
   repeat' (first|(refine ab ?_;intro K hK)|(refine hK _ ?_;clear hK K)|refine ax ?_|(refine aF ?_ ?_<;>intro hc<;>(try simp only[cS]at hc)<;>(try exact aG))|refine az ?_|(refine bT ?_;intro g)|(refine ai (aa iI rfl hv iI) rfl ?_;intro u))
   exact qm (.inl rfl) rfl (bh rfl) (bh rfl) (bh rfl) ⟨(),rfl,ah⟩
end
section
open Go.RowKit
theorem qL {α:Type} {l:List α} {i:Nat} {k x:α} (hn:l.Nodup) (h:l[i]? =some k):x∈l.eraseIdx i↔x∈l∧x≠k:=by
 obtain⟨bW,he⟩:=List.getElem?_eq_some_iff.1 h
 have hp:(k::l.eraseIdx i).Perm l:=he▸List.eZ bW
 have vT:=(hp.nodup_iff).2 hn
 rw[←hp.mem_iff,List.mem_cons]
 constructor
 ·intro hx;exact⟨.inr hx,fun e=>(List.nodup_cons.1 vT).1 (e▸hx)⟩
 ·rintro⟨rfl|hx,mi⟩
  ·exact absurd rfl mi
  ·exact hx
def aO (ls:List Ln):List UInt32:=ls.map (·.dest)
theorem nf:∀{bs:List (Nat×Nat)} {ls:List Ln},bs.length=ls.length→(lmap bs ls).map (·.1)=aO ls
 |[],[],_=>rfl
 |b::bs,l::ls,h=>by
  show l.dest::(lmap bs ls).map (·.1)=_
  rw[nf (by simpa using h)];rfl
 |[],_::_,h=>by simp at h
 |_::_,[],h=>by simp at h
theorem iB:∀{ls:List Ln} {j:Nat} {l:Ln},(aO ls).Nodup→ls[j]? =some l→cN ls l.dest=some j
 |[],_,_,_,h=>by simp at h
 |x::ls,0,l,hn,h=>by simp at h;subst h;simp[cN]
 |x::ls,j+1,l,hn,h=>by
  have hl:ls[j]? =some l:=by simpa using h
  have mi:x.dest≠l.dest:=fun e=>(List.nodup_cons.1 hn).1 (by show x.dest∈_;rw[e];exact List.mem_map.2 ⟨l,List.mem_of_getElem? hl,rfl⟩)
  simp only[cN,if_neg mi]
  rw[iB (List.nodup_cons.1 hn).2 hl];rfl
def oh (now:UInt64) (left:List (UInt32×Nat)) (ls:List Ln):List Ln:=ls.map fun l=>if l.dest∈left.map (·.1)then l else l.exp now
theorem Hf {now:UInt64} {bs:List (Nat×Nat)} {ls:List Ln} (hlen:bs.length=ls.length):oh now (lmap bs ls) ls=ls:=by
 unfold oh
 rw[nf hlen]
 conv=>rhs;rw[←List.map_id ls]
 apply List.map_congr_left
 intro l hl
 have:l.dest∈aO ls:=List.mem_map.2 ⟨l,hl,rfl⟩
 rw[if_pos this];rfl
theorem zk {now:UInt64} {ls:List Ln}:oh now [] ls=mE now ls:=by
 unfold oh mE;simp
theorem JI (now:UInt64) (l:Ln):(l.exp now).dest=l.dest:=by unfold Ln.exp;split<;>rfl
theorem Eg {now:UInt64} {left:List (UInt32×Nat)} {bs:List (Nat×Nat)} {ls:List Ln}:lmap bs (oh now left ls)=lmap bs ls:=by
 apply List.ext_getElem?
 intro j
 simp only[lmap,oh,List.getElem?_zipWith,List.getElem?_map]
 cases bs[j]? <;>cases ls[j]? <;>simp only[Option.map_some,Option.map_none]
 rename_i b l
 split<;>simp[JI]
theorem Cb {now:UInt64} {bs:List (Nat×Nat)} {ls:List Ln}:lmap bs (mE now ls)=lmap bs ls:=by
 have:=Eg (now:=now) (left:=[]) (bs:=bs) (ls:=ls)
 rwa[zk]at this
theorem Eh {now:UInt64} {left:List (UInt32×Nat)} {ls:List Ln} {i j:Nat} {k:UInt32} {b:Nat} {l:Ln} (hn:(aO ls).Nodup) (P8:(left.map (·.1)).Nodup) (hi:left[i]? =some (k,b)) (hl:ls[j]? =some l) (hk:l.dest=k):
 (oh now left ls)[j]? =some l∧(oh now left ls).set j (l.exp now)=oh now (left.eraseIdx i) ls:=by
 have xk:k∈left.map (·.1):=List.mem_map.2 ⟨_,List.mem_of_getElem? hi,rfl⟩
 have Em:∀x,x∈(left.eraseIdx i).map (·.1)↔x∈left.map (·.1)∧x≠k:=by
  intro x
  have h2:(left.eraseIdx i).map (·.1)=(left.map (·.1)).eraseIdx i:=fg _ _ _
  have h3:(left.map (·.1))[i]? =some k:=by simp[hi]
  rw[h2,qL P8 h3]
 refine⟨by simp only[oh,List.getElem?_map,hl,Option.map_some];rw[if_pos (hk▸xk)],?_⟩
 apply List.ext_getElem?
 intro m
 have bW:=(List.getElem?_eq_some_iff.1 hl).1
 rw[List.getElem?_set]
 simp only[oh,List.getElem?_map,List.length_map]
 by_cases e:j=m
 ·subst e
  rw[if_pos rfl,if_pos bW,hl,Option.map_some,if_neg]
  rw[Em,hk];simp
 ·rw[if_neg e]
  cases hm:ls[m]? with
  |none=>rfl
  |some x=>
   simp only[Option.map_some]
   have mi:x.dest≠k:=fun hx=>e (by
    have h1:=iB hn hl
    have h2:=iB hn hm
    rw[hk]at h1;rw[hx,h1]at h2;exact Option.some.inj h2)
   congr 1
   by_cases hx:x.dest∈left.map (·.1)
   ·rw[if_pos hx,if_pos ((Em _).2 ⟨hx,mi⟩)]
   ·rw[if_neg hx,if_neg (fun h=>hx ((Em _).1 h).1)]
theorem xy {bs:List (Nat×Nat)} {ls:List Ln} {k:UInt32} {b:Nat} (h:(k,b)∈lmap bs ls):∃(j rb:Nat) (l:Ln),ls[j]? =some l∧bs[j]? =some (b,rb)∧l.dest=k:=by
 obtain⟨j,hj⟩:=List.getElem?_of_mem h
 simp only[lmap,List.getElem?_zipWith]at hj
 cases hb:bs[j]? with
 |none=>rw[hb]at hj;simp at hj
 |some b0=>
  cases hl:ls[j]? with
  |none=>rw[hb,hl]at hj;simp at hj
  |some l=>
   rw[hb,hl]at hj
   simp only[Option.some.injEq,Prod.mk.injEq]at hj
   obtain⟨b1,rb⟩:=b0
   exact⟨j,rb,l,hl,by simp only at hj;rw[←hj.2];exact hb,hj.1⟩
attribute [local irreducible] WS LS cD eM cn cv Spec bA aK
variable (w0:World)
theorem Az (gt r:Nat) (self:UInt32) (bs:List (Nat×Nat)) (ls:List Ln) (hlen:bs.length=ls.length) (hn:(aO ls).Nodup) (now:UInt64):
 Spec Tryz.prog w0 115 [ptr gt 0,u64 now] (dO gt r self bs ls) (fun _:Unit=> .tuple #[]) (fun _=>dO gt r self bs (mE now ls)):=by
 refine Spec.enter Tryz.func115 rfl Tryz.ntmps115 rfl fun G=> ?_
 simp only[aN,dO]
 repeat' (first|(refine ab ?_;intro K hK)|(refine hK _ ?_;clear hK K)|refine ax ?_|refine az ?_|(refine ai (vC rfl iI iI) rfl ?_;intro it))
 refine aV (fun k τ=>∃(left:List (UInt32×Nat)) (cur:Option (UInt32×Nat)),left.length=k∧left.Sublist (lmap bs ls)∧τ=⟨[(10,ptr it 0),(1,u64 now)],[],Bs u32 gw r it (lmap bs ls) left cur*(dN bs (oh now left ls)*(aK gt 216 [u32 self,.map (some r)]*G))⟩) ?_ ?_
 ·exact⟨_,_,⟨lmap bs ls,none,rfl,List.Sublist.refl _,rfl⟩,cG,rfl,by rw[Hf hlen];exact ah⟩
 ·rintro k τ ⟨left,cur,hk,ow,rfl⟩
  have P8:(left.map (·.1)).Nodup:=by
   refine(ow.map (·.1)).nodup ?_
   rw[nf hlen];exact hn
  repeat' (first|(refine ab ?_;intro K hK)|(refine hK _ ?_;clear hK K)|refine ax ?_|(refine aF ?_ ?_<;>intro hc<;>(try simp only[cS]at hc)<;>(try exact aG))|refine az ?_|(refine ai (z6 rfl iI) rfl ?_;rintro⟨_|⟨i,z,u⟩,ho⟩<;>simp only[jC.val,jC.rest,jC.now]))
  ·obtain rfl:left=[]:=ho
   refine aj (.inr rfl) rfl ⟨(),rfl,?_⟩
   rw[zk,Cb]
   exact aq.trans aq.qN (ah)
  ·obtain⟨j,rb,l,hl,QN,hd⟩:=xy (ow.subset (List.mem_of_getElem? ho))
   obtain⟨l5,jf⟩:=Eh (now:=now) hn P8 ho hl hd
   obtain⟨F,h1,h2⟩:=kK QN l5
   have h3:=h2 (l.exp now)
   rw[jf]at h3
   have bW:=(List.getElem?_eq_some_iff.1 ho).1
   have Kb:(left.eraseIdx i).Sublist (lmap bs ls):=(List.eraseIdx_sublist left i).trans ow
   have Ce:=w4 w0 u rb l 0
   rw[h1]
   simp only[lu]
   by_cases c1:l.valid=true
   ·by_cases c2:l.cB≤now
    ·have hx:l.exp now=l.ended 0:=by simp[Ln.exp,c1,c2]
     rw[hx]at h3
     simp only[cU]at Ce ⊢
     rw[c1]at Ce ⊢
     repeat' (first|(refine ab ?_;intro K hK)|(refine hK _ ?_;clear hK K)|refine ax ?_|(refine aF ?_ ?_<;>intro hc<;>(try simp only[cS]at hc)<;>(try exact aG))|refine aX ?_|refine az ?_|(refine lI (pq rfl iI) rfl ?_)|(refine ai (aa iI rfl Ce iI) rfl ?_;intro u2))
     exact⟨k - 1,_,by omega,⟨left.eraseIdx i,some (z,u),by rw[List.length_eraseIdx,if_pos bW,hk],Kb,rfl⟩,cG,rfl,by rw[h3];simp only[lu,cU];exact ah⟩
    ·have hx:l.exp now=l:=by simp[Ln.exp,c2]
     rw[hx]at h3
     simp only[cU]
     rw[c1]
     repeat' (first|(refine ab ?_;intro K hK)|(refine hK _ ?_;clear hK K)|refine ax ?_|(refine aF ?_ ?_<;>intro hc<;>(try simp only[cS]at hc)<;>(try exact aG))|refine aX ?_|refine az ?_|(refine lI (pq rfl iI) rfl ?_))
     exact⟨k - 1,_,by omega,⟨left.eraseIdx i,some (z,u),by rw[List.length_eraseIdx,if_pos bW,hk],Kb,rfl⟩,cG,rfl,by rw[h3];simp only[lu,cU,c1];exact ah⟩
   ·have Tv:l.valid=false:=by simpa using c1
    have hx:l.exp now=l:=by simp[Ln.exp,Tv]
    rw[hx]at h3
    simp only[cU]
    rw[Tv]
    repeat' (first|(refine ab ?_;intro K hK)|(refine hK _ ?_;clear hK K)|refine ax ?_|(refine aF ?_ ?_<;>intro hc<;>(try simp only[cS]at hc)<;>(try exact aG))|refine az ?_|(refine lI (pq rfl iI) rfl ?_))
    exact⟨k - 1,_,by omega,⟨left.eraseIdx i,some (z,u),by rw[List.length_eraseIdx,if_pos bW,hk],Kb,rfl⟩,cG,rfl,by rw[h3];simp only[lu,cU,Tv];exact ah⟩
end
section
open Go.RowKit
attribute [local irreducible] WS LS cD eM cn cv Spec bA aK
variable (w0:World)
theorem oL (m:Int):Spec Tryz.prog w0 126 [.int .i64 m] emp (fun _:Unit=>aZ [b8 m]) (fun _=>emp):=by
 refine Spec.enter Tryz.func126 rfl Tryz.ntmps126 rfl fun G=> ?_
 simp only[aN]
 repeat' (first|(refine ab ?_;intro K hK)|(refine hK _ ?_;clear hK K)|refine ax ?_|refine az ?_|((refine' LQ ?zh rfl ?_);case zh=>intro F';first|exact kY rfl iI rfl iI iI iI|exact Aa rfl iI iI)|((refine' ai ?zh rfl ?_);(case zh=>exact lF iI iI iI rfl rfl rfl rfl rfl iI rfl rfl);intro g)|fail)
 all_goals exact aC (.inl rfl) rfl rfl ⟨(),rfl,aq.take aq.last⟩
theorem jz (x:UInt32):Spec Tryz.prog w0 127 [u32 x] emp (fun _:Unit=>aZ (be x)) (fun _=>emp):=by
 refine Spec.enter Tryz.func127 rfl Tryz.ntmps127 rfl fun G=> ?_
 simp only[aN,Jj]
 repeat' (first|(refine ab ?_;intro K hK)|(refine hK _ ?_;clear hK K)|refine ax ?_|refine az ?_|((refine' LQ ?zh rfl ?_);case zh=>intro F';first|exact bE rfl rfl iI|exact wk rfl iI iI iI|exact kY rfl iI rfl iI iI iI)|((refine' ai ?zh rfl ?_);(case zh=>exact lF iI iI iI rfl rfl rfl rfl rfl iI rfl rfl);intro g)|fail)
 all_goals exact aC (.inl rfl) rfl rfl ⟨(),rfl,aq.take aq.last⟩
def Pk.own (p:Pk):Pk:=
 if p.kind=1 then {p with ak:=if p.unknown then 0 else p.ak,bD:=0,lost:=[],ar:=[]}
 else if p.kind=2 then {p with unknown:=false,id:=0,av:=0,lost:=[],ar:=[]}
 else if p.kind=3 then {p with aH:=0,unknown:=false,id:=0,dest:=0,ak:=0,from_:=0,av:=0,bD:=0,ar:=[]}
 else if p.kind=9 then {p with aH:=0,unknown:=false,ak:=0,av:=0,bD:=0,lost:=[]}
 else⟨p.bK,p.kind,0,false,0,0,0,0,0,0,[],[]⟩
def Pk.xS (p:Pk) (v:Value):Value:=if p.kind=3 then v else .slice none 0 0
theorem CX (p:Pk) (v:Value) (hv:v.oneCell'=true):Spec Tryz.prog w0 124 [p.val v] emp (fun _:Unit=>p.own.val (p.xS v)) (fun _=>emp):=by
 refine Spec.enter Tryz.func124 rfl Tryz.ntmps124 rfl fun G=> ?_
 simp only[aN,Pk.val,Pk.cells]
 repeat' (first|(refine ab ?_;intro K hK)|(refine hK _ ?_;clear hK K)|refine ax ?_|(refine aF ?_ ?_<;>intro hc<;>(try simp only[cS]at hc)<;>(try exact aG))|refine az ?_|((first|refine dn rfl rfl iI rfl ?_ ?_|refine dm rfl rfl iI rfl ?_ ?_)<;>intro hc)|(refine bT ?_;intro g)|((refine' bL ?zh ?_);(case zh=>first|exact kV rfl rfl iI (by first|rfl|assumption) iI rfl|exact bo rfl rfl iI iI (by first|rfl|(simp only[List.all_cons,List.all_nil, *];rfl)) rfl);intro g)|fail)
 all_goals refine gD (.inl rfl) rfl (aS rfl iI iI rfl) ⟨(),by simp[Pk.own,Pk.xS, *],aq.take aq.last⟩
instance:DecidableEq Pk:=fun p q=>decidable_of_iff (p.bK=q.bK∧p.kind=q.kind∧p.aH=q.aH∧p.unknown=q.unknown∧p.id=q.id∧p.dest=q.dest∧p.ak=q.ak∧p.from_=q.from_∧p.av=q.av∧p.bD=q.bD∧p.lost=q.lost∧p.ar=q.ar) (by cases p;cases q;simp)
theorem Kl (x y x' y':Int) (w:World):
 (binOp .neq 180 (.agg #[.int .u32 x,.int .u32 y]) (.agg #[.int .u32 x',.int .u32 y'])).run Tryz.prog w= .ok (.bool (!(x==x'&&y==y'))) w:=by
 have u4:=Tryz.underlying26
 have hS:Tryz.prog.underlying 180=some (.struct (Tryz.prog.fieldsOf 180)):=by kernel_rfl
 have hp:Tryz.prog.stoodInHeld 180=false:=by kernel_rfl
 rw[run_neq_struct,show(10000:Nat)=9999+1 from rfl,run_equalIn_agg w 9999 180 _ _ hS hp]
 simp only[Program.fieldsOf,Tryz.underlying180]
 by_cases h1:x=x'<;>by_cases h2:y=y'<;>go_simp
instance Tc (a b:UInt32×UInt32):dL Tryz.prog .neq 180 (.agg (bB a).toArray) (.agg (bB b).toArray) (.bool (!decide (a=b))):=⟨fun w=>by
 have h:=Kl (a.1.toNat:Int) (a.2.toNat:Int) (b.1.toNat:Int) (b.2.toNat:Int) w
 have e:(((a.1.toNat:Int)==(b.1.toNat:Int))&&((a.2.toNat:Int)==(b.2.toNat:Int)))=decide (a=b):=by
  rw[Bool.eq_iff_iff]
  simp only[Bool.and_eq_true,beq_iff_eq,decide_eq_true_eq]
  constructor
  ·intro ⟨h1,h2⟩
   exact Prod.ext (UInt32.toNat_inj.1 (by omega)) (UInt32.toNat_inj.1 (by omega))
  ·rintro rfl;exact⟨rfl,rfl⟩
 rw[e]at h
 exact h,fun w x y=>by apply run_eqGuard_agg;kernel_rfl⟩
theorem Pk.ext' {p q:Pk} (h1:p.bK=q.bK) (h2:p.kind=q.kind) (h3:p.aH=q.aH) (h4:p.unknown=q.unknown) (h5:p.id=q.id) (h6:p.dest=q.dest) (h7:p.ak=q.ak) (h8:p.from_=q.from_) (h9:p.av=q.av) (VG:p.bD=q.bD) (VH:p.lost=q.lost) (Ol:p.ar=q.ar):p=q:=by
 cases p;cases q;simp only at h1 h2 h3 h4 h5 h6 h7 h8 h9 VG VH Ol;subst h1 h2 h3 h4 h5 h6 h7 h8 h9 VG VH Ol;rfl
theorem sN {α:Type} {l m:List α} {k:Nat} {a b:α} (h:l.take k=m.take k) (ha:l[k]? =some a) (hb:m[k]? =some b) (e:a=b):l.take (k+1)=m.take (k+1):=by
 rw[List.take_add_one,List.take_add_one,h,ha,hb,e]
theorem wD (p q:Pk) (hp:p.lost.length≤100000) (hq:q.lost.length≤100000) (v u:Value) (X:af) (hX:eX w0 X v (UInt32×UInt32) 2 bB p.lost) (hY:eX w0 X u (UInt32×UInt32) 2 bB q.lost):Spec Tryz.prog w0 125 [p.val v,q.val u] X (fun _:Unit=> .bool (decide (p=q))) (fun _=>X):=by
 refine Spec.enter Tryz.func125 rfl Tryz.ntmps125 rfl fun G=> ?_
 simp only[aN,Pk.val,Pk.cells]
 repeat' (first|(refine ab ?_;intro K hK)|(refine hK _ ?_;clear hK K)|refine ax ?_|(refine aF ?_ ?_<;>intro hc<;>(try simp only[cS]at hc)<;>(try exact aG))|refine az ?_|((first|refine dn rfl rfl iI rfl ?_ ?_|refine dm rfl rfl iI rfl ?_ ?_|refine dU rfl rfl iI rfl ?_ ?_)<;>intro hc)|(refine bT ?_;intro g))
 rotate_left
 ·refine aC (.inl rfl) rfl rfl ⟨(),?_,aq.take aq.last⟩
  rw[decide_eq_false];rintro rfl;exact hc rfl
 rename_i g'
 refine aV (fun m τ=>∃k,k+m=p.lost.length∧p.lost.take k=q.lost.take k∧τ=⟨[(5,.int .i64 (k:Int)),(3,ptr g 0),(2,ptr g' 0)],[],aK g 44 (q.cells u)*(aK g' 44 (p.cells v)*(X*G))⟩) ?_ ?_
 ·exact⟨p.lost.length,_,⟨0,by omega,rfl,rfl⟩,cG,rfl,aq.refl _⟩
 ·rintro m τ ⟨k,P6,hk,rfl⟩
  simp only[Pk.cells]
  rcases Nat.lt_or_ge k p.lost.length with bW|kQ
  ·obtain⟨z,hz⟩:∃z,p.lost[k]? =some z:=⟨_,List.getElem?_eq_getElem bW⟩
   have J3:k<q.lost.length:=by omega
   obtain⟨z',pF⟩:∃z,q.lost[k]? =some z:=⟨_,List.getElem?_eq_getElem J3⟩
   repeat' (first|(refine ab ?_;intro K hK)|(refine hK _ ?_;clear hK K)|refine ax ?_|(refine aF ?_ ?_<;>intro hc<;>(try simp only[cS]at hc)<;>(try exact aG))|refine aX ?_|refine az ?_|((first|refine dn rfl rfl iI rfl ?_ ?_|refine dm rfl rfl iI rfl ?_ ?_|refine dU rfl rfl iI rfl ?_ ?_)<;>intro hc)|refine mO (by kernel_rfl) ?_)
   ·refine aC (.inl rfl) rfl rfl ⟨(),?_,aq.take aq.last⟩
    rw[decide_eq_false];rintro rfl;rw[hz]at pF;cases pF;simp at hc
   ·exact⟨m - 1,_,by omega,⟨k+1,by omega,sN hk hz pF (by simpa using hc),rfl⟩,cG,rfl,aq.refl _⟩
  ·obtain rfl:k=p.lost.length:=by omega
   have hl:p.lost=q.lost:=by
    rw[List.take_length,List.take_of_length_le (by omega)]at hk;exact hk
   repeat' (first|(refine ab ?_;intro K hK)|(refine hK _ ?_;clear hK K)|refine ax ?_|(refine aF ?_ ?_<;>intro hc<;>(try simp only[cS]at hc)<;>(try exact aG))|refine aX ?_|refine az ?_|((first|refine dn rfl rfl iI rfl ?_ ?_|refine dm rfl rfl iI rfl ?_ ?_|refine dU rfl rfl iI rfl ?_ ?_)<;>intro hc))
   all_goals refine aC (.inl rfl) rfl rfl ⟨(),?_,aq.take aq.last⟩
   all_goals first
    |(rw[decide_eq_false];rintro rfl;exact hc rfl;done)
    |(rw[decide_eq_true];apply Pk.ext'<;>assumption;done)
end
section
open Go.RowKit
attribute [local irreducible] WS LS cD eM cn cv Spec bA aK
variable (w0:World)
theorem jG (v:Value) (l:List UInt8) (x:UInt32) (hl:l.length≤900000):Spec Tryz.prog w0 54 [v,u32 x] (rows 5 1 bU v l) (fun v':Value=>v') (fun v'=>rows 5 1 bU v' (l++be x)):=by
 refine Spec.enter Tryz.func54 rfl Tryz.ntmps54 rfl fun G=> ?_
 simp only[aN,Jj]
 repeat' (first|(refine ab ?_;intro K hK)|(refine hK _ ?_;clear hK K)|refine ax ?_|refine az ?_|((refine' LQ ?zh rfl ?_);case zh=>intro F';first|exact bE rfl rfl iI|exact wk rfl iI iI iI)|((refine' ai ?zh rfl ?_);(case zh=>first|exact lF iI iI iI rfl rfl rfl rfl rfl iI rfl rfl|exact te rfl rfl iI iI rfl iI iI mS (by first|omega|(simp[al]<;>omega)) rfl);intro g)|fail)
 all_goals exact aC (.inl rfl) rfl rfl ⟨_,rfl,aq.refl _⟩
def Pk.out (p:Pk):List UInt8:=if p.Fits then p.bytes else []
theorem Pk.vV {p:Pk} (h:p.Fits):p.out=p.bytes:=if_pos h
theorem Pk.A7 {p:Pk} (h:¬p.Fits):p.out=[]:=if_neg h
theorem Pk.Fits.kind {p:Pk} (h:p.Fits):p.kind=1∨p.kind=2∨p.kind=3∨p.kind=9:=by
 unfold Pk.Fits at h
 rcases h.2 with h|h|h|h<;>simp[h.1]
theorem JG (p:Pk) (hp:p.Ok) (h3:p.kind≠3) (v:Value) (X:af) [hX:eX w0 X v (UInt32×UInt32) 2 bB p.lost]:Spec Tryz.prog w0 169 [p.val v] X (fun v':Value=> .tuple #[v',.bool (decide p.Fits)]) (fun v'=>rows 5 1 bU v' p.out*X):=by
 have qB:=zg w0 p hp v X
 obtain⟨⟨t1,t2⟩,⟨k1,k2⟩,⟨h1,h2⟩,hl,hs⟩:=hp
 refine Spec.enter Tryz.func169 rfl Tryz.ntmps169 rfl fun G=> ?_
 simp only[aN,Pk.val,Pk.cells]
 repeat' (first|(refine ab ?_;intro K hK)|(refine hK _ ?_;clear hK K)|refine ax ?_|(refine aF ?_ ?_<;>intro hc<;>(try simp only[cS]at hc)<;>(try exact aG))|refine aX ?_|refine az ?_|((refine' LQ ?zh rfl ?_);case zh=>intro F';first|exact IY iI iI iI rfl rfl|exact Aa rfl iI iI|exact I0 rfl rfl iI iI iI (by omega) rfl)|((first|refine dn rfl rfl iI rfl ?_ ?_|refine dm rfl rfl iI rfl ?_ ?_|refine dU rfl rfl iI rfl ?_ ?_)<;>intro hc)|(refine bT ?_;intro g)|((refine' ai ?zh rfl ?_);(case zh=>first|exact lF iI iI iI rfl rfl rfl rfl rfl iI rfl rfl|exact te rfl rfl iI iI rfl iI iI mS (by first|omega|(simp[al]<;>omega)) rfl|exact GD rfl rfl iI rfl iI iI (by first|omega|(simp[al]<;>omega)) rfl);intro g)|((refine' bL ?zh ?_);(case zh=>exact oF rfl rfl iI iI rfl iI (by first|assumption|omega|(simp[al]<;>omega)));intro g)|(refine ai (aa iI rfl qB iI) rfl ?_;intro g)|(refine ai (Fw iI rfl (jG w0 _ _ _ (by first|omega|(simp[al]<;>omega))) iI) rfl ?_;intro g)|refine th 6 ?_)
 ·simp only[decide_eq_false hc,Pk.A7 hc,ad]
  refine de (.inl rfl) rfl rfl rfl ⟨_,rfl,?_⟩
  exact(aq.nil _ _ _ _ _).trans (aq.tail _ (aq.take aq.last))
 all_goals have hF:=‹p.Fits›
 all_goals have hk:=hF.kind
 all_goals simp only[decide_eq_true hF,Pk.vV hF,ad]
 all_goals refine de (.inl rfl) rfl rfl rfl ⟨_,rfl,aq.Dr ?_ (aq.take aq.last)⟩
 all_goals first|(exfalso;omega)|(simp[Pk.bytes, *];try decide)
def Pk.upto (p:Pk) (k:Nat):List UInt8:=[b8 p.bK,3,0,0]++[b8 p.lost.length]++gi (p.lost.take k)
theorem Pk.uQ (p:Pk) (k:Nat):(p.upto k).length=5+8*min k p.lost.length:=by
 simp[Pk.upto,jY];omega
theorem Pk.zX {p:Pk} {k:Nat} {z:UInt32×UInt32} (h:p.lost[k]? =some z):p.upto k++be z.1++be z.2=p.upto (k+1):=by
 simp[Pk.upto,vg _ _ _ h]
theorem Pk.Du {p:Pk} (h:p.kind=3):p.upto p.lost.length=p.bytes:=by
 simp[Pk.upto,Pk.bytes,h]
theorem JF (p:Pk) (hp:p.Ok) (h3:p.kind=3) (v:Value) (X:af) [hX:eX w0 X v (UInt32×UInt32) 2 bB p.lost]:Spec Tryz.prog w0 169 [p.val v] X (fun v':Value=> .tuple #[v',.bool (decide p.Fits)]) (fun v'=>rows 5 1 bU v' p.out*X):=by
 have qB:=zg w0 p hp v X
 obtain⟨⟨t1,t2⟩,⟨k1,k2⟩,⟨h1,h2⟩,hl,hs⟩:=hp
 refine Spec.enter Tryz.func169 rfl Tryz.ntmps169 rfl fun G=> ?_
 simp only[aN,Pk.val,Pk.cells]
 repeat' (first|(refine ab ?_;intro K hK)|(refine hK _ ?_;clear hK K)|refine ax ?_|(refine aF ?_ ?_<;>intro hc<;>(try simp only[cS]at hc)<;>(try exact aG))|refine aX ?_|refine az ?_|((refine' LQ ?zh rfl ?_);case zh=>intro F';exact Aa rfl iI iI)|(refine bT ?_;intro g)|((refine' ai ?zh rfl ?_);(case zh=>first|exact lF iI iI iI rfl rfl rfl rfl rfl iI rfl rfl|exact te rfl rfl iI iI rfl iI iI mS (by first|omega|(simp[al]<;>omega)) rfl);intro g)|(refine ai (aa iI rfl qB iI) rfl ?_;intro g))
 ·simp only[decide_eq_false hc,Pk.A7 hc,ad]
  refine de (.inl rfl) rfl rfl rfl ⟨_,rfl,?_⟩
  exact(aq.nil _ _ _ _ _).trans (aq.tail _ (aq.take aq.last))
 refine aV (fun m τ=>∃k v',k+m=p.lost.length∧τ=⟨[(4,v'),(91,.int .i64 (k:Int)),(90,.int .i64 (p.lost.length:Int)),(89,v)],[],rows 5 1 bU v' (p.upto k)*(X*G)⟩) ?_ ?_
 ·refine⟨p.lost.length,_,⟨0,g,by omega,rfl⟩,cG,rfl,?_⟩
  exact aq.Dr (by simp[Pk.upto,h3];exact⟨rfl,rfl⟩) (aq.take aq.last)
 ·rintro m τ ⟨k,v',P6,rfl⟩
  clear g
  rcases Nat.lt_or_ge k p.lost.length with bW|kQ
  ·obtain⟨z,hz⟩:∃z,p.lost[k]? =some z:=⟨_,List.getElem?_eq_getElem bW⟩
   repeat' (first|(refine ab ?_;intro K hK)|(refine hK _ ?_;clear hK K)|refine ax ?_|(refine aF ?_ ?_<;>intro hc<;>(try simp only[cS]at hc)<;>(try exact aG))|refine aX ?_|refine az ?_|(refine bT ?_;intro g)|((refine' bL ?zh ?_);(case zh=>exact bo rfl rfl iI iI (by first|rfl|(simp only[List.all_cons,List.all_nil, *];rfl)) rfl);intro g)|fail)
   have Yi:=p.uQ k
   refine I4 [0,1,2,4,5,3,6,7] (by kernel_rfl) iI ?_
   repeat' (first|(refine hK _ ?_;clear hK K)|refine ax ?_|refine az ?_|(refine aD (Fw iI rfl (jG w0 _ _ _ (by first|omega|(simp[al]<;>omega))) iI) rfl rfl rfl ?_;intro g))
   refine⟨m - 1,_,by omega,⟨k+1,g,by omega,rfl⟩,cG,rfl,?_⟩
   exact aq.Dr (Pk.zX hz) (aq.take aq.last)
  ·obtain rfl:k=p.lost.length:=by omega
   repeat' (first|(refine ab ?_;intro K hK)|(refine hK _ ?_;clear hK K)|refine ax ?_|(refine aF ?_ ?_<;>intro hc<;>(try simp only[cS]at hc)<;>(try exact aG))|refine aX ?_|refine az ?_)
   simp only[decide_eq_true hc,Pk.vV hc,ad]
   exact de (.inl rfl) rfl rfl rfl ⟨_,rfl,aq.Dr (Pk.Du h3) (aq.take aq.last)⟩
theorem B1 (p:Pk) (hp:p.Ok) (v:Value) (X:af) [hX:eX w0 X v (UInt32×UInt32) 2 bB p.lost]:Spec Tryz.prog w0 169 [p.val v] X (fun v':Value=> .tuple #[v',.bool (decide p.Fits)]) (fun v'=>rows 5 1 bU v' p.out*X):=by
 by_cases h:p.kind=3
 ·exact JF w0 p hp h v X
 ·exact JG w0 p hp h v X
end
section
open Go.RowKit
attribute [local irreducible] WS LS cD eM cn cv Spec bA aK
variable (w0:World)
theorem Pk.rS (p:Pk):p.Fits↔(1≤p.bK∧p.bK≤255∧0≤p.aH∧p.aH≤255∧p.ar.length≤16)∧p=p.own∧(p.kind=1∨p.kind=2∨(p.kind=3∧1≤p.lost.length∧p.lost.length≤8)∨p.kind=9):=by
 obtain⟨bK,kind,aH,unknown,id,dest,ak,from_,av,bD,lost,ar⟩:=p
 by_cases h1:kind=1
 ·subst h1;cases unknown<;>simp[Pk.Fits,Pk.own]<;>first|(constructor<;>intro h<;>simp_all<;>done)|(intros;simp_all;done)
 ·by_cases h2:kind=2
  ·subst h2;simp[Pk.Fits,Pk.own];constructor<;>intro h<;>simp_all
  ·by_cases h3:kind=3
   ·subst h3;simp[Pk.Fits,Pk.own];constructor<;>intro h<;>simp_all<;>omega
   ·by_cases h9:kind=9
    ·subst h9;simp[Pk.Fits,Pk.own];constructor<;>intro h<;>simp_all
    ·simp[Pk.Fits,Pk.own,h1,h2,h3,h9]
theorem Gh (p:Pk) (v:Value) (X:af) (hX:eX w0 X v (UInt32×UInt32) 2 bB p.lost):eX w0 X (p.xS v) (UInt32×UInt32) 2 bB p.own.lost:=by
 by_cases h3:p.kind=3
 ·have e1:p.xS v=v:=if_pos h3
  have e2:p.own.lost=p.lost:=by simp[Pk.own,h3]
  rw[e1,e2];exact hX
 ·have e1:p.xS v= .slice none 0 0:=if_neg h3
  have e2:p.own.lost=[]:=by
   simp only[Pk.own,if_neg h3]
   repeat' split
   all_goals rfl
  rw[e1,e2];exact mw _ _ _
theorem sy (p:Pk):p.own.lost.length≤p.lost.length:=by
 unfold Pk.own
 repeat' split
 all_goals simp
def Pk.ret (p:Pk):Value:= .tuple #[aZ p.out,.int .i64 (if p.Fits then 0 else 1)]
theorem Pk.mx {p:Pk} (h:p.Fits):p.ret= .tuple #[aZ p.bytes,.int .i64 0]:=by simp[Pk.ret,Pk.out,h]
theorem Pk.my {p:Pk} (h:¬p.Fits):p.ret= .tuple #[aZ [],.int .i64 1]:=by simp[Pk.ret,Pk.out,h]
theorem H7 (p:Pk) (hp:p.Ok) (h3:p.kind≠3) (v:Value) (hv:v.oneCell'=true) (X:af) [hX:eX w0 X v (UInt32×UInt32) 2 bB p.lost]:Spec Tryz.prog w0 77 [p.val v] X (fun _:Unit=>p.ret) (fun _=>X):=by
 have kg:=CX w0 p v hv
 simp only[Pk.val,Pk.cells]at kg
 have Ej:=wD w0 p p.own hp.lost (Nat.le_trans (sy p) hp.lost) v (p.xS v) X hX (Gh w0 p v X hX)
 have mj:(p.xS v).oneCell'=true:=by unfold Pk.xS;rw[if_neg h3];rfl
 have qB:=p.rS
 obtain⟨⟨t1,t2⟩,⟨k1,k2⟩,⟨h1,h2⟩,hl,hs⟩:=hp
 refine Spec.enter Tryz.func77 rfl Tryz.ntmps77 rfl fun G=> ?_
 simp only[aN,Pk.val,Pk.cells]
 repeat' (first|refine ag (id:=5) [0,1,3,4,2,5,6,7] ?_|refine ag (id:=11) [0,1,5,6,9,10,13,14,17,18,21,22,25,26,2,3,4,7,8,11,12,15,16,19,20,23,24,27,28,29,30] ?_|refine ag (id:=13) [0,1,2,3,6,7,10,11,14,15,18,19,4,5,8,9,12,13,16,17,20,21,22,23] ?_|refine ag (id:=24) [0,1,2,3,4,7,8,11,12,15,16,19,20,5,6,9,10,13,14,17,18,21,22,23] ?_|(refine ab ?_;intro K hK)|(refine hK _ ?_;clear hK K)|refine ax ?_|(refine aF ?_ ?_<;>intro hc<;>(try simp only[cS]at hc)<;>(try exact aG))|refine aX ?_|refine az ?_|((first|refine' LQ ?zh rfl ?_|refine' bk rfl rfl ?zh ?_);case zh=>intro F';exact kP rfl rfl (by first|omega|(simp[al]<;>omega)))|((first|refine dn rfl rfl iI rfl ?_ ?_|refine dm rfl rfl iI rfl ?_ ?_|refine dU rfl rfl iI rfl ?_ ?_)<;>intro hc)|(refine bT ?_;intro g)|((refine' bL ?zh ?_);(case zh=>exact bo rfl rfl iI iI (by first|rfl|(simp only[List.all_cons,List.all_nil, *];rfl)) rfl);intro g)|(refine aD (aa iI rfl (oL w0 _) iI) rfl rfl rfl ?_;intro g)|(refine aD (aa iI rfl (jz w0 _) iI) rfl rfl rfl ?_;intro g)|(refine ai (aa iI rfl kg iI) rfl ?_;intro g)|(refine ai (aa iI rfl Ej iI) rfl ?_;intro g))
 all_goals try refine de (.inl rfl) rfl rfl rfl ⟨(),(Pk.my ?_).symm,aq.take aq.last⟩
 all_goals try(intro hF;rw[qB]at hF;obtain⟨⟨_,_,_,_,_⟩,he,_⟩:=hF;first|contradiction|omega)
 all_goals have hF:p.Fits:=p.rS.2 ⟨⟨by omega,by omega,by omega,by omega,by omega⟩,‹p=p.own›,by omega⟩
 all_goals refine de (.inl rfl) rfl rfl rfl ⟨(),?_,aq.take aq.last⟩
 all_goals rw[Pk.mx hF]
 all_goals first
  |(simp[Pk.bytes,‹p.kind=1›,‹p.unknown=true›];decide)
  |(simp[Pk.bytes,‹p.kind=1›,‹p.unknown=false›];decide)
  |(simp[Pk.bytes,‹p.kind=2›];decide)
  |(simp[Pk.bytes,‹p.kind=9›];decide)
theorem Pk.Ss {p:Pk} (h:p.kind=3) (k:Nat):[b8 p.bK]++[b8 p.kind]++[0,0]++[b8 p.lost.length]++gi (p.lost.take k)=p.upto k:=by
 rw[h];simp[Pk.upto];decide
theorem H6 (p:Pk) (hp:p.Ok) (h3:p.kind=3) (v:Value) (hv:v.oneCell'=true) (X:af) [hX:eX w0 X v (UInt32×UInt32) 2 bB p.lost]:Spec Tryz.prog w0 77 [p.val v] X (fun _:Unit=>p.ret) (fun _=>X):=by
 have kg:=CX w0 p v hv
 simp only[Pk.val,Pk.cells]at kg
 have Ej:=wD w0 p p.own hp.lost (Nat.le_trans (sy p) hp.lost) v (p.xS v) X hX (Gh w0 p v X hX)
 have mj:(p.xS v).oneCell'=true:=by unfold Pk.xS;rw[if_pos h3];exact hv
 have qB:=p.rS
 obtain⟨⟨t1,t2⟩,⟨k1,k2⟩,⟨h1,h2⟩,hl,hs⟩:=hp
 refine Spec.enter Tryz.func77 rfl Tryz.ntmps77 rfl fun G=> ?_
 simp only[aN,Pk.val,Pk.cells]
 repeat' (first|refine ag (id:=5) [0,1,3,4,2,5,6,7] ?_|(refine ab ?_;intro K hK)|(refine hK _ ?_;clear hK K)|refine ax ?_|(refine aF ?_ ?_<;>intro hc<;>(try simp only[cS]at hc)<;>(try exact aG))|refine aX ?_|refine az ?_|((first|refine' LQ ?zh rfl ?_|refine' bk rfl rfl ?zh ?_);case zh=>intro F';exact kP rfl rfl (by first|omega|(simp[al]<;>omega)))|((first|refine dn rfl rfl iI rfl ?_ ?_|refine dm rfl rfl iI rfl ?_ ?_|refine dU rfl rfl iI rfl ?_ ?_)<;>intro hc)|(refine bT ?_;intro g)|((refine' bL ?zh ?_);(case zh=>exact bo rfl rfl iI iI (by first|rfl|(simp only[List.all_cons,List.all_nil, *];rfl)) rfl);intro g)|(refine aD (aa iI rfl (oL w0 _) iI) rfl rfl rfl ?_;intro g)|(refine ai (aa iI rfl (oL w0 _) iI) rfl ?_;intro g)|(refine ai (aa iI rfl kg iI) rfl ?_;intro g)|(refine ai (aa iI rfl Ej iI) rfl ?_;intro g))
 all_goals try refine de (.inl rfl) rfl rfl rfl ⟨(),(Pk.my ?_).symm,aq.take aq.last⟩
 all_goals try(intro hF;rw[qB]at hF;obtain⟨⟨_,_,_,_,_⟩,he,_⟩:=hF;first|contradiction|omega)
 refine aV (fun m τ=>∃k gg,k+m=p.lost.length∧τ=⟨[(9,.int .i64 (k:Int)),(8,aZ (p.upto k)),(1,ptr gg 0)],[],aK gg 44 (p.cells v)*(X*G)⟩) ?_ ?_
 ·refine⟨p.lost.length,_,⟨0,_,by omega,rfl⟩,⟨rfl,?_,rfl,trivial⟩,rfl,by dsimp only[Pk.cells];exact aq.take (aq.take aq.last)⟩
  rw[←Pk.Ss h3];simp[gi];rfl
 ·rintro m τ ⟨k,gg,P6,rfl⟩
  simp only[Pk.cells]
  have Yi:=p.uQ k
  rcases Nat.lt_or_ge k p.lost.length with bW|kQ
  ·obtain⟨z,hz⟩:∃z,p.lost[k]? =some z:=⟨_,List.getElem?_eq_getElem bW⟩
   repeat' (first|refine ag (id:=21) [0,1,2,3,4,5,6,9,10,11,12,13,14,7,8,15,16,17] ?_|(refine ab ?_;intro K hK)|(refine hK _ ?_;clear hK K)|refine ax ?_|(refine aF ?_ ?_<;>intro hc<;>(try simp only[cS]at hc)<;>(try exact aG))|refine aX ?_|refine az ?_|((first|refine' LQ ?zh rfl ?_|refine' bk rfl rfl ?zh ?_);case zh=>intro F';exact kP rfl rfl (by first|omega|(simp[al]<;>omega)))|(refine aD (aa iI rfl (jz w0 _) iI) rfl rfl rfl ?_;intro g))
   refine⟨m - 1,_,by omega,⟨k+1,_,by omega,rfl⟩,⟨rfl,?_,rfl,trivial⟩,rfl,by dsimp only[Pk.cells];exact aq.take (aq.take aq.last)⟩
   rw[←Pk.zX hz];rfl
  ·obtain rfl:k=p.lost.length:=by omega
   repeat' (first|(refine ab ?_;intro K hK)|(refine hK _ ?_;clear hK K)|refine ax ?_|(refine aF ?_ ?_<;>intro hc<;>(try simp only[cS]at hc)<;>(try exact aG))|refine aX ?_|refine az ?_)
   have hF:p.Fits:=p.rS.2 ⟨⟨by omega,by omega,by omega,by omega,by omega⟩,‹p=p.own›,by omega⟩
   refine de (.inl rfl) rfl rfl rfl ⟨(),?_,aq.take aq.last⟩
   rw[Pk.mx hF,←Pk.Du h3]
theorem gJ (p:Pk) (hp:p.Ok) (v:Value) (hv:v.oneCell'=true) (X:af) [hX:eX w0 X v (UInt32×UInt32) 2 bB p.lost]:Spec Tryz.prog w0 77 [p.val v] X (fun _:Unit=>p.ret) (fun _=>X):=by
 by_cases h:p.kind=3
 ·exact H6 w0 p hp h v hv X
 ·exact H7 w0 p hp h v hv X
end
section
open Go.RowKit
variable {P:Program} {w0:World}
theorem uS {n:fT} {E:Env} {H:af} {d:Option Tmp} {ty:TypeId} {pos:String} {after:Array Edge} {gu:Option (Nat×Bool)} {x:Operand} {v:Value} {t:TypeId} (hx:E.ev x=some v) (h:P.concrete t=true):cD P n w0 ⟨d,.makeInterface t x,ty,pos,after,gu⟩ E H (.iface t v):=fun a w s hs=>by
 simp[execOp,s.ev hx,run_makeInterface (w:=w) t v h]
def ox:FrameMode→Value×FrameMode
 | .panicking ({v,recovered:=false,goexit:=false}::Ny)=>(v,.panicking ({v,recovered:=true}::Ny))
 |u=>(.nilIface,u)
theorem C8 (c₀:Frame) (cs:List Frame) (u:FrameMode) (hu:c₀.mode=u):(recoverD (c₀::cs)=some ((ox u).1,{c₀ with mode:=(ox u).2}::cs))∨(recoverD (c₀::cs)=none∧ox u=(.nilIface,u)):=by
 subst hu
 cases hm:c₀.mode with
 |panicking ch=>
  cases ch with
  |nil=>simp[recoverD,ox,hm]
  |cons p Ny=>obtain⟨v,r,g⟩:=p;cases r<;>cases g<;>simp[recoverD,ox,hm]
 |_=>simp[recoverD,ox,hm]
theorem iQ.JH {f:FuncId} {fn:Func} {c2:Code} {args:List Value} {u:FrameMode} {H:af} {K:FrameMode→af→Prop} {m id d d2:Nat} {ty Tl:TypeId} {pos ME:String} {after Af:Array Edge} {Th:Op} {b:Bool}
 (hf:P.funcs[f]? =some fn) (hb:fn.body=some (.seq (.region id #[⟨some d,.call ⟨.builtin .recover,#[],#[]⟩,ty,pos,after,none⟩,⟨some d2,Th,Tl,ME,Af,none⟩] false) c2)) (hn:fn.ntmps=m) (hle:Nat.ble args.length m=true) (hd:Nat.blt d m=true) (rU:Nat.blt d2 m=true)
 (iZ:cD P ⟨m,none⟩ w0 ⟨some d2,Th,Tl,ME,Af,none⟩ ((d,(ox u).1)::aN 0 args) H (.bool b))
 (h:WS P ⟨m,none⟩ w0 c2 (Bf P ⟨m,none⟩ w0 fn fun v H'=>K (ox u).2 H') ⟨(d2,.bool b)::(d,(ox u).1)::aN 0 args,[],H⟩):iQ P w0 f args u H K:=by
 intro w hs
 subst hn
 refine callsDIn_of_wpSIn hf hb trivial fun c₀ cs hu=> ?_
 refine wpSIn_seq (wpSIn_region ?_)
 have s0:=nJ (args:=args) hle
 have s1:fV ⟨fn.ntmps,none⟩ ((d,(ox u).1)::aN 0 args) (Act.put ⟨args.toArray++Array.replicate (fn.ntmps - args.toArray.size) undef,[]⟩ (some d) (ox u).1):=s0.put _ hd
 have s2:=s1.put (.bool b) rU
 have S0:∀a:Act,(execOp a.eval ⟨some d,.call ⟨.builtin .recover,#[],#[]⟩,ty,pos,after,none⟩).run P w= .ok .recover w:=fun a=>by
  rfl
 have Lu:=iZ _ w s1 hs
 have rest:∀(nv:List Frame),nv={c₀ with mode:=(ox u).2}::cs→c2.wpSIn (uW none) 0 P (bodyPostS P fn c₀ cs fun e u' w'=>∃v H',e=Ending.returned v∧Sat w0 w' H'∧K u' H') ((Act.put ⟨args.toArray++Array.replicate (fn.ntmps - args.toArray.size) undef,[]⟩ (some d) (ox u).1).put (some d2) (.bool b)) nv w:=by
  rintro nv rfl
  refine wpSIn_of_wpIn rfl (wpIn_mono (h _ w ⟨s2,rfl,hs⟩) ?_)
  rintro e a w' ⟨σ,h1,h2⟩
  cases e with
  |normal=>obtain⟨hD,v,hr,hK⟩:=h1;exact⟨h2.defers.trans hD,_,rfl,v,hr a w' h2,v,σ.H,rfl,h2.sat,hK⟩
  |ret=>obtain⟨hD,v,hr,hK⟩:=h1;exact⟨h2.defers.trans hD,_,rfl,v,hr a w' h2,v,σ.H,rfl,h2.sat,hK⟩
  |_=>exact h1.elim
 have e0:(List.range (#[(⟨some d,.call ⟨.builtin .recover,#[],#[]⟩,ty,pos,after,none⟩:Oper),⟨some d2,Th,Tl,ME,Af,none⟩]:Array Oper).size)=[0,1]:=rfl
 rw[e0]
 have tail:∀(nv:List Frame),nv={c₀ with mode:=(ox u).2}::cs→wpOpsSIn (uW none) 0 P #[⟨some d,.call ⟨.builtin .recover,#[],#[]⟩,ty,pos,after,none⟩,⟨some d2,Th,Tl,ME,Af,none⟩] (Exit.thenS (c2.wpSIn (uW none) 0 P (bodyPostS P fn c₀ cs fun e u' w'=>∃v H',e=Ending.returned v∧Sat w0 w' H'∧K u' H')) (bodyPostS P fn c₀ cs fun e u' w'=>∃v H',e=Ending.returned v∧Sat w0 w' H'∧K u' H')) [1] (Act.put ⟨args.toArray++Array.replicate (fn.ntmps - args.toArray.size) undef,[]⟩ (some d) (ox u).1) nv w:=by
  intro nv zm
  simp only[wpOpsSIn,List.getElem?_toArray,List.getElem?_cons_succ,List.getElem?_cons_zero]
  refine⟨fun _ _=>trivial,?_⟩
  rw[if_pos (by rfl),Lu]
  exact rest nv zm
 unfold wpOpsSIn
 simp only[List.getElem?_toArray,List.getElem?_cons_zero]
 refine⟨fun _ _=>trivial,?_⟩
 rw[if_pos (by rfl),S0]
 rcases C8 c₀ cs u hu with h1|⟨h1,h2⟩
 ·simp only[h1]
  exact tail _ rfl
 ·simp only[h1]
  have:(ox u).1= .nilIface:=by rw[h2]
  rw[←this]
  refine tail _ ?_
  rw[h2]
  subst hu;rfl
class DC (P:Program) (t:TypeId):Prop where
 eq:P.underlying t=some (.interface (P.methodsAt t))
instance Tb {t u:TypeId} {x:Value} [h:DC P t]:dL P .neq t (.iface u x) .nilIface (.bool true):=⟨fun w=>run_neq_held_nil (w:=w) t u x h.eq,fun w _ _=>by rfl⟩
theorem GK {n:fT} {E:Env} {H:af} {d:Option Tmp} {ty t t2:TypeId} {pos:String} {after:Array Edge} {gu:Option (Nat×Bool)} {x:Operand} (hx:E.ev x=some .nilIface) (h:DC P t):cD P n w0 ⟨d,.binOp .neq t x (.const .nilIface) t2,ty,pos,after,gu⟩ E H (.bool false):=fun a w s hs=>by
 have e:=s.ev hx
 have e2:a.eval (.const .nilIface)= .nilIface:=rfl
 have hr:=run_neq_nil_nil (w:=w) t h.eq
 have hg:(eqGuard .neq t x (.const .nilIface) .nilIface .nilIface).run P w= .ok () w:=by simp[eqGuard]
 simp only[execOp,e,e2,Sem.run_bind,hg,hr,Result.andThen_ok,Sem.run_pure]
end
end Go.Proofs.YtapoehkdnglahabGreat
