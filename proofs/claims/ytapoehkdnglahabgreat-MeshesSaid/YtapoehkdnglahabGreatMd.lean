/- A part. -/
import Derived.Test.YtapoehkdnglahabGreatMc
set_option maxRecDepth 100000
set_option linter.all false
namespace Go.Proofs.YtapoehkdnglahabGreat
section
open Go.RowKit
variable {P:Program} {n:fT} {w0:World} {E:Env} {D:List Deferred} {H F F2 R:af} {ops:Array Oper} {l':List Oper} {Q:Exit->St->Prop} {w:World}
def Vy (P:Program) (n:fT) (w0:World) (o:Oper) (E:Env) (pre:af) {α:Type} (v:α->Value) (post:α->af):Prop:=
 ∀(G:af) a w (K:Act->World->Prop) (Q:Exit->Act->World->Prop),fV n E a->Sat w0 w (pre*G)->(∀x w',Sat w0 w' (post x*G)->K (a.put o.dst (v x)) w')->o.wpIn (uW n.round) 0 P a w K Q
theorem LL {α:Type} {pre:af} {v:α->Value} {post:α->af} {d:Nat} {op:Op} {ty:TypeId} {pos:String} {after:Array Edge} (iZ:Vy P n w0 ⟨some d,op,ty,pos,after,none⟩ E pre v post) (hH:Own H pre F) (hd:Nat.blt d n.tmps=true)
 (h:∀x,LS P n w0 ops Q l' ⟨(d,v x)::E,D,post x*F⟩):LS P n w0 ops Q (⟨some d,op,ty,pos,after,none⟩::l') ⟨E,D,H⟩:=λa w g=>
 wpListIn_plain rfl λK hK=>iZ F a w K _ g.dQ (g.sat.cast hH.eq) λx w' hs=>hK _ _ (h x _ _ ⟨g.dQ.zaI (some d) _ hd,g.defers,hs⟩)
def Ae (P:Program) (w0:World) (l:Nat) (args:List Value) (pre:af) (post:Bool->af):Prop:=
 ∀(G:af) W,Sat w0 W (pre*G)->YieldAt (uW none) 0 P l args.toArray W λe W'=>∃b,e= .returned (.bool b)/\Sat w0 W' (post b*G)
@[reducible] def mM (l:Nat):Value:= .func (.yield l) #[] #[]
theorem vD {d t l args} {xs:List Operand} {ts ty pos after gu pre post} (hn:n.round=none) (ht:E.get t=some (mM l)) (eB:E.mU xs=some args) (spec:Ae P w0 l args pre post):
 Vy P n w0 ⟨d,.call ⟨.value (.tmp t),xs.toArray,ts⟩,ty,pos,after,gu⟩ E pre (λb:Bool=> .bool b) post:=λG a w K Q s hs hK=>by
 have e:=s.mU eB
 have e2:a.eval (.tmp t)= .func (.yield l) #[] #[]:=s.ev (x:= .tmp t) ht
 obtain⟨fn,tmps,assign,body,hy,hR⟩:=spec G w hs
 have hr:(execOp a.eval ⟨d,.call ⟨.value (.tmp t),xs.toArray,ts⟩,ty,pos,after,gu⟩).run P w= .ok (.round l fn tmps assign body) w:=by
  simp[execOp,resolve,e2,Deferred.ofValue,invoke,e,hy]
 rw[hn]
 refine⟨λ_ _=>trivial,?_⟩
 show Oper.uponIn _ _ _ _ _ _ _ ((Oper.semAt none a.eval _).run P w)
 rw[Oper.semAt_none,hr]
 refine⟨λh=>(by cases h),hR.mono ?_⟩
 rintro e w' ⟨b,rfl,eI⟩
 exact hK b w' eI
def lS (l:Nat) (r:Loop):af:=pM l (.loop r)
def pW (b:Nat):af:=pM b (.deferred (some []))
theorem Sat.putObj {r o o'} (h:Sat w0 w (pM r o*F)):Sat w0 (w.putObj r o') (pM r o'*F):=h.setObj
def yU:List Tmp->List Value->Env->Env
 |t::ts,v::vs,E=>yU ts vs ((t,v)::E)
 |_,_,E=>E
theorem wN:∀(ts:List Tmp) (vs:List Value) {E:Env} {a:Act} {ro:Option Nat},ts.all (λt=>Nat.blt t n.tmps)=true->fV n E a->
 fV ⟨n.tmps,ro⟩ (yU ts vs E) ⟨(ts.zip vs).foldl (λtmps (t,v)=>tmps.setIfInBounds t v) a.tmps,[]⟩
 |[],vs,E,a,ro,_,h=>⟨h.size,h.get⟩
 |t::ts,[],E,a,ro,_,h=>⟨h.size,h.get⟩
 |t::ts,v::vs,E,a,ro,ht,h=>by
  simp only[uao,Ps]at ht;have:=wN ts vs (ro:=ro) ht.2 (h.put v ht.1);exact this
def M1 (P:Program) (w0:World) (gf:FuncId) (fb lb:List Value) (X:af) {α:Type} (rP:α->List Value) (S:List α->Prop):Prop:=
 ∀(l:Nat) (J Jx:List α->af),(∀pre x,(∃xs,S xs/\pre++[x]<+:xs)->Ae P w0 l (rP x) (J pre) (λb=>bif b then J (pre++[x])else Jx (pre++[x])))->
  Spec P w0 gf (fb++mM l::lb) (X*J []) (λ_:List α×Bool=> .tuple #[]) (λp=>bif p.2 then pure' (S p.1)*(X*J p.1)else X*Jx p.1)
def qf (P:Program) (w0:World) (gf:FuncId) (lb:List Value) (X:af) {α:Type} (rP:α->List Value) (S:List α->Prop):Prop:=
 ∀(l:Nat) (J Jx:List α->af),(∀pre x,(∃xs,S xs/\pre++[x]<+:xs)->Ae P w0 l (rP x) (J pre) (λb=>bif b then J (pre++[x])else Jx (pre++[x])))->
  Spec P w0 gf (mM l::lb) (X*J []) (λ_:List α×Bool=> .tuple #[]) (λp=>bif p.2 then pure' (S p.1)*(X*J p.1)else X*Jx p.1)
def Sh (J:af) (Jx:Code->af):Exit->St->Prop
 | .normal,σ=>aq σ.H J
 | .ret,σ=>aq σ.H (Jx .ret)
 | .exit id,σ=>aq σ.H (Jx (.exit id))
 |_,_=>False
def N8 (P:Program) (n:fT) (w0:World) (body:Code) (J:af) (Jx:Code->af) (R:af):Exit->St->Prop
 | .normal,σ=>σ.D=[]/\∃J1,aq σ.H (J1*R)/\∀R',WS P n w0 body (Sh (J*R') (λc=>Jx c*R')) ⟨σ.E,[],J1*R'⟩
 |_,_=>False
theorem vI {P n w0 body J Jx R} {σ:St} (hD:σ.D=[]) (J1) (hE:aq σ.H (J1*R)) (h:∀R',WS P n w0 body (Sh (J*R') (λc=>Jx c*R')) ⟨σ.E,[],J1*R'⟩):N8 P n w0 body J Jx R .normal σ:=⟨hD,J1,hE,h⟩
theorem mB {g:Operand} {ps:List Tmp} {assign body:Code} {gf:FuncId} {fb lb:List Value} {α:Type} {rP:α->List Value} {S:List α->Prop} {X G:af} (hn:n.round=none) (hg:E.ev g=some (.func (.func gf) fb.toArray lb.toArray)) (hf:aA P gf) (it:M1 P w0 gf fb lb X rP S)
 (Mo:ps.all (λt=>Nat.blt t n.tmps)=true) (rZ:∀x,(rP x).length=ps.length) (J:List α->af) (Jx:Code->List α->af) (hH:H=X*(J []*G))
 (round:∀l pre x R,(∃xs,S xs/\pre++[x]<+:xs)->WS P ⟨n.tmps,some l⟩ w0 assign (N8 P ⟨n.tmps,some l⟩ w0 body (J (pre++[x])) (λc=>Jx c (pre++[x])) R) ⟨yU ps (rP x) E,[],J pre*R⟩)
 (done:∀b xs,S xs->Q .normal ⟨E,⟨.collected b,#[]⟩::D,J xs*(pW b*(X*G))⟩)
 (stop:∀b c pre,WS P n w0 c Q ⟨E,⟨.collected b,#[]⟩::D,Jx c pre*(pW b*(X*G))⟩):WS P n w0 (.rangeFunc g ps.toArray assign body) Q ⟨E,D,H⟩:=by
 intro a w gd
 have Q2:uW n.round=uW none:=by rw[hn]
 rw[Q2]
 refine wpIn_rangeFunc λfn _=> ?_
 have e2:a.eval g= .func (.func gf) fb.toArray lb.toArray:=gd.dQ.ev hg
 have QR:=fI (P:=P) hf (fb++mM (w.heap.size+1)::lb).toArray ((w.alloc (.deferred (some []))).alloc (.loop {state:= .ready,pending:=none,fn,tmps:=a.tmps,params:=ps.toArray,assign,body,defers:=w.heap.size}))
 refine⟨_,_,_,⟨.fn (.func gf) lb.toArray,fb.toArray++ #[mM (w.heap.size+1)]⟩,_,gf,(fb++mM (w.heap.size+1)::lb).toArray,_,run_enterLoop_outer fn a.tmps ps.toArray assign body,by simp[resolve,e2,Deferred.ofValue];exact⟨rfl,rfl⟩,λ_ _=>trivial,by simpa [invoke]using QR,λh=>(by cases h),?_⟩
 refine yV ?_
 generalize hl:w.heap.size+1=l
 generalize hb:w.heap.size=b
 let r0:Loop:={state:= .ready,pending:=none,fn,tmps:=a.tmps,params:=ps.toArray,assign,body,defers:=b}
 have je:Sat w0 ((w.alloc (.deferred (some []))).alloc (.loop r0)) ((X*(J []*lS l r0))*(pW b*G)):=by
  have h1:=(gd.sat.alloc (.deferred (some []))).alloc (.loop r0);rw[World.size_alloc,hl,hb]at h1;refine h1.cast ?_;show lS l r0*(pW b*H)=_;rw[hH];ac_rfl
 have hY:∀pre x,(∃xs,S xs/\pre++[x]<+:xs)->Ae P w0 l (rP x) (J pre*lS l r0) (λb'=>bif b' then J (pre++[x])*lS l r0 else hex λc=>Jx c (pre++[x])*lS l {r0 with state:= .done,pending:=some c}):=by
  intro pre x hx G' W hs;have iu:Sat w0 W (lS l r0*(J pre*G')):=hs.cast (by ac_rfl);refine⟨_,_,_,_,run_yield iu.at_ (by simp[rZ,r0]),?_⟩;refine roundIn_of_wpIn trivial ?_;have hW:=round l pre x (lS l r0*G') hx ⟨((ps.toArray.zip (rP x).toArray).foldl (λtmps (t,v)=>tmps.setIfInBounds t v) a.tmps),[]⟩ W ⟨by
   have:=wN (n:=n) (ro:=some l) ps (rP x) Mo gd.dQ
   simpa using this,rfl,hs.cast (by ac_rfl)⟩
  refine wpIn_mono hW ?_;rintro e a1 w1 ⟨σ1,hq,T7⟩;cases e with
  |normal=>
   obtain⟨Xi,J1,Xj,QP⟩:=hq;have fP:Sat w0 w1 (lS l r0*(J1*G')):=(Xj.sat T7.sat).cast (by ac_rfl);refine⟨_,run_beginRound fP.at_ rfl,?_⟩;have qI:=fP.putObj (o':= .loop {r0 with state:= .busy});refine wpIn_mono (QP (lS l {r0 with state:= .busy}*G') a1 _ ⟨T7.dQ,T7.defers.trans Xi,qI.cast (by show lS l _*_=_;ac_rfl)⟩) ?_;rintro e a2 w2 ⟨σ2,P9,VW⟩;have fin:∀(jump:Option Code) (J2:af),aq σ2.H (J2*(lS l {r0 with state:= .busy}*G'))->
    ∃v w',(Instr.endRound l jump).run P w2= .ok v w'/\v= .bool jump.isNone/\Sat w0 w' (J2*(lS l {r0 with state:=if jump.isNone then .ready else .done,pending:=jump}*G')):=by
    intro jump J2 Xk
    have Nn:Sat w0 w2 (lS l {r0 with state:= .busy}*(J2*G')):=(Xk.sat VW.sat).cast (by ac_rfl)
    refine⟨_,_,run_endRound jump Nn.at_,rfl,?_⟩
    exact Nn.putObj.cast (by show lS l _*_=_;ac_rfl)
   have jump:∀c,aq σ2.H (Jx c (pre++[x])*(lS l {r0 with state:= .busy}*G'))->∃v w',(Instr.endRound l (some c)).run P w2= .ok v w'/\∃b',Ending.returned v= .returned (.bool b')/\Sat w0 w' ((bif b' then J (pre++[x])*lS l r0 else hex λc=>Jx c (pre++[x])*lS l {r0 with state:= .done,pending:=some c})*G'):=by
    intro c hc;obtain⟨v,w',h1,h2,h3⟩:=fin (some c) _ hc;refine⟨v,w',h1,false,by rw[h2];rfl,?_⟩;show Sat w0 w' (hex _*G');exact Sat.M9 c (h3.cast (by simp;ac_rfl))
   cases e with
   |normal=>
    obtain⟨v,w',h1,h2,h3⟩:=fin none _ P9;exact⟨v,w',h1,true,by rw[h2];rfl,h3.cast (by simp;show _*(lS l r0*G')=_;ac_rfl)⟩
   |ret=>exact jump _ P9
   |exit id=>exact jump _ P9
   |goto id=>exact P9.elim
   |panic c=>exact P9.elim
   |outgrown=>exact P9.elim
  |_=>exact hq.elim
 refine((it l (λpre=>J pre*lS l r0) (λpre=>hex λc=>Jx c pre*lS l {r0 with state:= .done,pending:=some c}) hY) (pW b*G) _ je).mono ?_
 rintro e W' ⟨⟨pre,c⟩,rfl,eI⟩
 cases c with
 |true=>
  have iu:Sat w0 W' (pure' (S pre)*(lS l r0*(J pre*(X*(pW b*G))))):=eI.cast (by simp only[Zo];ac_rfl)
  obtain⟨hS,fP⟩:=iu.pure
  refine⟨none,_,run_endLoop fP.at_ (by simp[r0]),_,done b pre hS,⟨gd.dQ.size,gd.dQ.get⟩,by simp[gd.defers],?_⟩
  exact fP.putObj.drop.cast (by ac_rfl)
 |false=>
  have iu:Sat w0 W' ((hex λc=>Jx c pre*lS l {r0 with state:= .done,pending:=some c})*(X*(pW b*G))):=eI.cast (by simp only[Yv];ac_rfl)
  obtain⟨c,fP⟩:=iu.ex
  have qI:Sat w0 W' (lS l {r0 with state:= .done,pending:=some c}*(Jx c pre*(X*(pW b*G)))):=fP.cast (by ac_rfl)
  refine⟨some c,_,run_endLoop qI.at_ (by simp),?_⟩
  have:=stop b c pre {a with defers:=[⟨.collected b,#[]⟩]++a.defers} (W'.putObj l (.loop {r0 with state:= .exhausted,pending:=some c})) ⟨⟨gd.dQ.size,gd.dQ.get⟩,by simp[gd.defers],qI.putObj.drop.cast (by ac_rfl)⟩
  rw[Q2]at this
  exact this
theorem ry {g:Operand} {ps:List Tmp} {assign body:Code} {gf:FuncId} {lb:List Value} {α:Type} {rP:α->List Value} {S:List α->Prop} {X G:af} (hn:n.round=none) (hg:E.ev g=some (.func (.func gf) #[] lb.toArray)) (hf:aA P gf) (it:qf P w0 gf lb X rP S)
 (Mo:ps.all (λt=>Nat.blt t n.tmps)=true) (rZ:∀x,(rP x).length=ps.length) (J:List α->af) (Jx:Code->List α->af) (hH:H=X*(J []*G))
 (round:∀l pre x R,(∃xs,S xs/\pre++[x]<+:xs)->WS P ⟨n.tmps,some l⟩ w0 assign (N8 P ⟨n.tmps,some l⟩ w0 body (J (pre++[x])) (λc=>Jx c (pre++[x])) R) ⟨yU ps (rP x) E,[],J pre*R⟩)
 (done:∀b xs,S xs->Q .normal ⟨E,⟨.collected b,#[]⟩::D,J xs*(pW b*(X*G))⟩)
 (stop:∀b c pre,WS P n w0 c Q ⟨E,⟨.collected b,#[]⟩::D,Jx c pre*(pW b*(X*G))⟩):WS P n w0 (.rangeFunc g ps.toArray assign body) Q ⟨E,D,H⟩:=
 mB (fb:=[]) hn hg hf it Mo rZ J Jx hH round done stop
end
section
open Go.RowKit
variable {P:Program} {n:fT} {w0:World} {E:Env} {D:List Deferred} {H F F2 R:af} {ops:Array Oper} {l':List Oper} {Q:Exit->St->Prop} {w:World}
def iQ (P:Program) (w0:World) (f:FuncId) (args:List Value) (u:FrameMode) (H:af) (K:FrameMode->af->Prop):Prop:=
 ∀w,Sat w0 w H->CallsDIn (uW none) 0 P f args.toArray u w λe u' w'=>∃v H',e= .returned v/\Sat w0 w' H'/\K u' H'
def Ga (P:Program) (n:fT) (w0:World) (fn:Func) (R:Value->af->Prop):List Deferred->FrameMode->Env->af->Prop
 |[],.returning,E,H=>∃v,(∀a w,fV n E a->Sat w0 w H->(results fn a.tmps).run P w= .ok v w)/\R v H
 |[],_,_,_=>False
 |d::ds,u,E,H=>u≠ .run/\((∃b F,d=⟨.collected b,#[]⟩/\aq H (pW b*F)/\Ga P n w0 fn R ds u E F)\/
  (∃f im args,d=⟨.fn (.func f) (List.toArray im),List.toArray args⟩/\aA P f/\iQ P w0 f (args++im) u H λu' H'=>Ga P n w0 fn R ds (settle u') E H'))
theorem qK {fn:Func} {R:Value->af->Prop} {R':Ending->World->Prop} (hR:∀v H w,R v H->Sat w0 w H->R' (.returned v) w):∀(ds:List Deferred) (u:FrameMode) (E:Env) (H:af) (a:Act) (w:World),Ga P n w0 fn R ds u E H->fV n E a->Sat w0 w H->
 LeavesInM (uW none) 0 P fn a.tmps R' ds u w
 |[],u,E,H,a,w,h,hs,hw=>by
  cases u with
  |returning=>
   obtain⟨v,h1,h2⟩:=h;exact⟨v,h1 a w hs hw,hR v H w h2 hw⟩
  |run=>exact h.elim
  |panicking c=>exact h.elim
 |d::ds,u,E,H,a,w,h,hs,hw=>by
  obtain⟨hu,h⟩:=h;refine⟨hu,?_⟩;rcases h with ⟨b,F,rfl,he,h⟩|⟨f,im,args,rfl,hf,h⟩
  ·left;have O6:=he.sat hw;exact⟨b,_,rfl,run_takeDeferred O6.at_,qK hR ds u E F a _ h hs O6.putObj.drop⟩
  ·right;refine⟨(λh=>by cases h),_,_,f,(args++im).toArray,rfl,?_,λ_ _=>trivial,(h w hw).mono ?_⟩
   ·have:=fI (P:=P) hf (args++im).toArray w;simpa [invoke]using this
   ·rintro e u' w' ⟨v,H',rfl,O6,hK⟩;exact qK hR ds (settle u') E H' a w' hK hs O6
def KH (P:Program) (n:fT) (w0:World) (fn:Func) (R:Value->af->Prop):Exit->St->Prop
 | .normal,σ| .ret,σ=>Ga P n w0 fn R σ.D .returning σ.E σ.H
 | .panic c,σ=>Ga P n w0 fn R σ.D (.panicking c) σ.E σ.H
 |_,_=>False
theorem nJ {args:List Value} {m} (hle:Nat.ble args.length m=true):fV ⟨m,none⟩ (aN 0 args) ⟨args.toArray++Array.replicate (m - args.toArray.size) undef,[]⟩:=by
 have Uk:args.length<=m:=Yu hle;refine⟨by simp;omega,λt v ht=> ?_⟩;obtain⟨_,h2⟩:=wE args 0 t v ht;have bW:=(az.1 h2).1;simp only[uck]at h2 bW;simp[ucl,bW]at h2 ⊢;simp[h2]
theorem Spec.jr {α f} {fn:Func} {c} {args:List Value} {pre} {res:α->Value} {post m} (hf:P.funcs[f]? =some fn) (hb:fn.body=some c) (hn:fn.ntmps=m) (hle:Nat.ble args.length m=true) (h:∀G,WS P ⟨m,none⟩ w0 c (KH P ⟨m,none⟩ w0 fn λv H'=>∃x,v=res x/\aq H' (post x*G)) ⟨aN 0 args,[],pre*G⟩):Spec P w0 f args pre res post:=by
 intro G w hs;subst hn;refine(callsIn_wide (n:=0)).1 (callsIn_of_wp_marks hf hb trivial (wpIn_mono (h G _ w ⟨nJ hle,rfl,hs⟩) ?_));intro e a w' ⟨σ,h1,h2⟩;have key:=λu (h1:Ga P ⟨fn.ntmps,none⟩ w0 fn (λv H'=>∃x,v=res x/\aq H' (post x*G)) σ.D u σ.E σ.H)=>qK (R':=λe w'=>∃x,e=Ending.returned (res x)/\Sat w0 w' (post x*G)) (λv H w ⟨x,hv,he⟩ hw=>⟨x,by rw[hv],he.sat hw⟩) σ.D u σ.E σ.H a w' h1 h2.dQ h2.sat;cases e with
 |normal=>show LeavesInM _ _ _ _ _ _ a.defers _ _;rw[h2.defers];exact key _ h1
 |ret=>show LeavesInM _ _ _ _ _ _ a.defers _ _;rw[h2.defers];exact key _ h1
 |panic c=>show LeavesInM _ _ _ _ _ _ a.defers _ _;rw[h2.defers];exact key _ h1
 |_=>exact h1.elim
section out
variable {fn:Func} {R:Value->af->Prop} {u:FrameMode}
theorem zbu {r:ResultVar} {v:Value} (hr:fn.results= #[r]) (h1:RV P n w0 E H r v) (h:R v H):Ga P n w0 fn R [] .returning E H:=⟨v,λa w hs hw=>zO hr (h1 a w hs hw),h⟩
theorem Gb {r r2:ResultVar} {v v2:Value} (hr:fn.results= #[r,r2]) (h1:RV P n w0 E H r v) (h2:RV P n w0 E H r2 v2) (h:R (.tuple #[v,v2]) H):Ga P n w0 fn R [] .returning E H:=⟨_,λa w hs hw=>zP hr (h1 a w hs hw) (h2 a w hs hw),h⟩
theorem vU {ds:List Deferred} {b:Nat} (hu:u≠ .run) (hH:Own H (pW b) F) (h:Ga P n w0 fn R ds u E F):Ga P n w0 fn R (⟨.collected b,#[]⟩::ds) u E H:=⟨hu,.inl ⟨b,F,rfl,aq.of_eq hH.eq,h⟩⟩
theorem pH {ds f} {im args:List Value} (hu:u≠ .run) (hf:aA P f) (h:iQ P w0 f (args++im) u H λu' H'=>Ga P n w0 fn R ds (settle u') E H'):Ga P n w0 fn R (⟨.fn (.func f) im.toArray,args.toArray⟩::ds) u E H:=⟨hu,.inr ⟨f,im,args,rfl,hf,h⟩⟩
theorem zcc {σ:St} (h:Ga P n w0 fn R σ.D .returning σ.E σ.H):KH P n w0 fn R .ret σ:=h
theorem zft {σ:St} {c} (h:Ga P n w0 fn R σ.D (.panicking c) σ.E σ.H):KH P n w0 fn R (.panic c) σ:=h
end out
theorem iQ.enter {f} {fn:Func} {c} {args:List Value} {u H K m} (hf:P.funcs[f]? =some fn) (hb:fn.body=some c) (hn:fn.ntmps=m) (hle:Nat.ble args.length m=true) (h:WS P ⟨m,none⟩ w0 c (Bf P ⟨m,none⟩ w0 fn λv H'=>K u H') ⟨aN 0 args,[],H⟩):iQ P w0 f args u H K:=by
 intro w hs;subst hn;refine CallsDIn.mono (callsDIn_of_wp (R:=λe w'=>∃v H',e=Ending.returned v/\Sat w0 w' H'/\K u H') hf hb trivial (wpIn_mono (h _ w ⟨nJ hle,rfl,hs⟩) ?_)) ?_
 ·intro e a w' ⟨σ,h1,h2⟩;cases e with
  |normal=>obtain⟨hD,v,hr,hK⟩:=h1;exact⟨h2.defers.trans hD,v,hr a w' h2,v,σ.H,rfl,h2.sat,hK⟩
  |ret=>obtain⟨hD,v,hr,hK⟩:=h1;exact⟨h2.defers.trans hD,v,hr a w' h2,v,σ.H,rfl,h2.sat,hK⟩
  |_=>exact h1.elim
 ·rintro e u' w' ⟨rfl,v,H',he,hw,hK⟩;exact⟨v,H',he,hw,hK⟩
theorem we {d f} {args:List Value} {xs:List Operand} {ts ty pos after} (hn:n.round=none) (hd:gC n d=true) (eB:E.mU xs=some args) (h:LS P n w0 ops Q l' ⟨E.zaI d undef,⟨.fn (.func f) ([]:List Value).toArray,args.toArray⟩::D,H⟩):LS P n w0 ops Q (⟨d,.defer ⟨.value (.func f),xs.toArray,ts⟩,ty,pos,after,none⟩::l') ⟨E,D,H⟩:=λa w g=>by
 refine wpListIn_plain rfl λK hK=> ?_;have e:=g.dQ.mU eB;rw[hn];refine jB (.inl rfl) ?_;have hr:(execOp a.eval ⟨d,.defer ⟨.value (.func f),xs.toArray,ts⟩,ty,pos,after,none⟩).run P w= .ok (.defer ⟨.fn (.func f) ([]:List Value).toArray,args.toArray⟩) w:=by
  simp[execOp,resolve,Act.eval,Deferred.ofValue,e]
 unfold Oper.wp;rw[hr];exact hK _ _ (h _ _ ⟨fV.zaI (a:=⟨a.tmps,⟨.fn (.func f) ([]:List Value).toArray,args.toArray⟩::a.defers⟩) ⟨g.dQ.size,g.dQ.get⟩ d undef hd,by rw[put_defers];exact G2 _ g.defers,g.sat⟩)
theorem GH {d t f} {im args:List Value} {xs:List Operand} {ts ty pos after} (hn:n.round=none) (hd:gC n d=true) (ht:E.get t=some (.func (.func f) #[] im.toArray)) (eB:E.mU xs=some args) (h:LS P n w0 ops Q l' ⟨E.zaI d undef,⟨.fn (.func f) im.toArray,args.toArray⟩::D,H⟩):LS P n w0 ops Q (⟨d,.defer ⟨.value (.tmp t),xs.toArray,ts⟩,ty,pos,after,none⟩::l') ⟨E,D,H⟩:=λa w g=>by
 refine wpListIn_plain rfl λK hK=> ?_;have e:=g.dQ.mU eB;have e2:a.eval (.tmp t)= .func (.func f) #[] im.toArray:=g.dQ.ev (x:= .tmp t) ht;rw[hn];refine jB (.inl rfl) ?_;have hr:(execOp a.eval ⟨d,.defer ⟨.value (.tmp t),xs.toArray,ts⟩,ty,pos,after,none⟩).run P w= .ok (.defer ⟨.fn (.func f) im.toArray,args.toArray⟩) w:=by
  simp[execOp,resolve,e2,Deferred.ofValue,e]
 unfold Oper.wp;rw[hr];exact hK _ _ (h _ _ ⟨fV.zaI (a:=⟨a.tmps,⟨.fn (.func f) im.toArray,args.toArray⟩::a.defers⟩) ⟨g.dQ.size,g.dQ.get⟩ d undef hd,by rw[put_defers];exact G2 _ g.defers,g.sat⟩)
def iR (P:Program) (w0:World) (f:FuncId) (args:List Value) (pre:af) (chain:List PanicEntry) (post:af):Prop:=
 ∀(G:af) w,Sat w0 w (pre*G)->Calls P f args.toArray w λe w'=>e= .panicked chain/\Sat w0 w' (post*G)
def Vg (chain:List PanicEntry) (H:af):Exit->St->Prop
 | .panic c,σ=>σ.D=[]/\c=chain/\aq σ.H H
 |_,_=>False
theorem iR.enter {f} {fn:Func} {c} {args:List Value} {pre chain post m} (hf:P.funcs[f]? =some fn) (hb:fn.body=some c) (hn:fn.ntmps=m) (hle:Nat.ble args.length m=true) (h:∀G,WS P ⟨m,none⟩ w0 c (Vg chain (post*G)) ⟨aN 0 args,[],pre*G⟩):iR P w0 f args pre chain post:=by
 intro G w hs;subst hn;refine calls_of_wp hf hb (wp_mono ((wpIn_wide (n:=0)).1 (h G _ w ⟨nJ hle,rfl,hs⟩)) ?_);intro e a w' ⟨σ,h1,h2⟩;cases e with
 |panic c=>obtain⟨hD,rfl,he⟩:=h1;exact⟨h2.defers.trans hD,rfl,he.sat h2.sat⟩
 |_=>exact h1.elim
theorem ij {K c σ} (h:Q (.panic c) σ):thenS K Q (.panic c) σ:=h
theorem kH {id c σ} (h:Q (.panic c) σ):oK id Q (.panic c) σ:=h
theorem Qs {o:Oper} (hg:o.guard=none) (h:∀a w K (Q':Exit->Act->World->Prop),Good n w0 ⟨E,D,H⟩ a w->(∀c σ w',Q (.panic c) σ->Good n w0 σ a w'->Q' (.panic c) a w')->o.wp P a w K Q') (xm:∀c,o.op≠ .defer c):LS P n w0 ops Q (o::l') ⟨E,D,H⟩:=λa w g=>
 wpListIn_plain hg λK hK=>jB (.inr xm) (h a w K _ g λc σ w' hq hg=>⟨σ,hq,hg⟩)
theorem lG {f:FuncId} {args:List Value} {pre post:af} {chain:List PanicEntry} {d:Option Tmp} {xs:List Operand} {ts:Array TypeId} {ty:TypeId} {pos:String} {after:Array Edge} (hf:aA P f) (eB:E.mU xs=some args) (spec:iR P w0 f args pre chain post) (hH:Own H pre F) (h:Q (.panic chain) ⟨E,D,post*F⟩):
 LS P n w0 ops Q (⟨d,.call ⟨.value (.func f),xs.toArray,ts⟩,ty,pos,after,none⟩::l') ⟨E,D,H⟩:=by
 refine Qs rfl (λa w K Q' g hQ=> ?_) (λc hc=>by cases hc)
 have e:=g.dQ.mU eB
 have hr:(execOp a.eval ⟨d,.call ⟨.value (.func f),xs.toArray,ts⟩,ty,pos,after,none⟩).run P w= .ok (.enter f args.toArray) w:=by
  exact paK
 unfold Oper.wp
 rw[hr]
 refine(spec F w (g.sat.cast hH.eq)).mono ?_
 rintro e w' ⟨rfl,eI⟩
 exact hQ chain _ w' h ⟨g.dQ,g.defers,eI⟩
theorem IS {d x t v ty pos after} (hx:E.ev x=some (.iface t v)) (h:Q (.panic [{v:= .iface t v,recovered:=false}]) ⟨E,D,H⟩):
 LS P n w0 ops Q (⟨d,.panic x,ty,pos,after,none⟩::l') ⟨E,D,H⟩:=by
 refine Qs rfl (λa w K Q' g hQ=> ?_) (λc hc=>by cases hc)
 have hr:(execOp a.eval ⟨d,.panic x,ty,pos,after,none⟩).run P w= .halt (.panic (.iface t v)) w:=by
  simp[execOp,g.dQ.ev hx,Instr.panic,goPanic]
 unfold Oper.wp
 rw[hr]
 exact hQ _ _ w h ⟨g.dQ,g.defers,g.sat⟩
end
section
open Go.RowKit
open Go.ChangeMaps (setBlock)
variable {P:Program} {n:fT} {w0:World} {E:Env} {D:List Deferred} {H F F2 R:af} {ops:Array Oper} {l':List Oper} {Q:Exit->St->Prop} {w:World}
section
variable {κ ν:Type} {fk:κ->Value} {fv:ν->Value} {b r:Nat} {m left:List (κ×ν)} {cur:Option (κ×ν)}
structure Fz (fk:κ->Value) (fv:ν->Value) (m left:List (κ×ν)) (cur:Option (κ×ν)) (es:Array MapEntry) (clock since c0:Nat) (seen:Array Nat):Prop where
 Wx:es.toList.map (λe=>(e.key,e.val))=m.map (λp=>(fk p.1,fv p.2))
 A6:(es.toList.map (·.born)).Nodup
 Nx:∀e∈es.toList,e.born<clock
 KG:∀e∈es.toList,e.born<since
 YG:since<=c0
 KC:since<=clock
 KF:(es.toList.filter λe=> !seen.contains e.born).map (λe=>(e.key,e.val))=left.map (λp=>(fk p.1,fv p.2))
 U7:∀p,cur=some p->∃e∈es.toList,∃s':Array Nat,seen=s'.push e.born/\e.key=fk p.1/\e.val=fv p.2
 zfs:cur≠none->c0=clock
def Bs (fk:κ->Value) (fv:ν->Value) (b r:Nat) (m left:List (κ×ν)) (cur:Option (κ×ν)):af:=
 hex λx:Array MapEntry×Nat×Nat×Nat×Array Nat=>pure' (Fz fk fv m left cur x.1 x.2.1 x.2.2.1 x.2.2.2.1 x.2.2.2.2)*(pM b (.map x.1 x.2.1)*pM r (.mapIter (some b) x.2.2.1 x.2.2.2.2 x.2.2.2.1))
theorem CJ (h:Sat w0 w (Bs fk fv b r m left cur*F)):∃es clock since c0 seen,Fz fk fv m left cur es clock since c0 seen/\Sat w0 w (pM b (.map es clock)*(pM r (.mapIter (some b) since seen c0)*F)):=by
 obtain⟨⟨es,clock,since,c0,seen⟩,h⟩:=h.ex;have h2:Sat w0 w (pure' _*(pM b (.map es clock)*(pM r (.mapIter (some b) since seen c0)*F))):=h.cast (by rw[ad,ad]);obtain⟨h3,h4⟩:=h2.pure;exact⟨es,clock,since,c0,seen,h3,h4⟩
theorem zE {es clock since c0 seen} (h0:Fz fk fv m left cur es clock since c0 seen) (h:Sat w0 w (pM b (.map es clock)*(pM r (.mapIter (some b) since seen c0)*F))):Sat w0 w (Bs fk fv b r m left cur*F):=
 Sat.M9 (P:=λx:Array MapEntry×Nat×Nat×Nat×Array Nat=>pure' (Fz fk fv m left cur x.1 x.2.1 x.2.2.1 x.2.2.2.1 x.2.2.2.2)*(pM b (.map x.1 x.2.1)*pM r (.mapIter (some b) x.2.2.1 x.2.2.2.2 x.2.2.2.1))) (es,clock,since,c0,seen) ((Sat.MG h0 h).cast (by rw[ad,ad]))
theorem aq.qN:aq (Bs fk fv b r m left cur*F) (mp fk fv b m*F):=by
 intro h hh;obtain⟨a,c,hd,he,⟨x,hx⟩,hF⟩:=hh;obtain⟨gG,qb⟩:=ki.1 hx;obtain⟨a1,a2,rU,T4,Mm,ma⟩:=qb;have PZ:Part.tB a1 c:=by
  intro k;rcases hd k with e|e
  ·left;rw[T4]at e;simp only[Part.join]at e;cases h1:a1 k with
   |none=>rfl
   |some o=>rw[h1]at e;cases e
  ·exact .inr e
 refine⟨a1.join c,⟨a1,c,PZ,rfl,⟨x.1,x.2.1,Mm,gG.Wx,gG.A6,gG.Nx⟩,hF⟩,λk o ho=> ?_⟩;rw[he,T4];simp only[Part.join]at ho ⊢;cases h1:a1 k with
 |some u=>rw[h1]at ho;exact ho
 |none=>
  rw[h1]at ho;simp only at ho ⊢;rcases hd k with e|e
  ·rw[T4]at e;simp only[Part.join,h1]at e;rw[e];exact ho
  ·rw[e]at ho;cases ho
class LN (H:af) (r:Nat) (κ ν:outParam Type) (fk:outParam (κ->Value)) (fv:outParam (ν->Value)) (b:outParam Nat) (m left:outParam (List (κ×ν))) (cur:outParam (Option (κ×ν))) (F:outParam af):Prop where
 eq:H=Bs fk fv b r m left cur*F
instance Qi (F:af):LN (Bs fk fv b r m left cur*F) r κ ν fk fv b m left cur F:=⟨rfl⟩
instance Qh:LN (Bs fk fv b r m left cur) r κ ν fk fv b m left cur emp:=⟨b5.symm⟩
variable {d:Option Tmp} {ty:TypeId} {pos:String} {after:Array Edge} {gu:Option (Nat×Bool)} {x:Operand} {t kt et:TypeId}
theorem vC (hx:E.ev x=some (.map (some b))) (hl:jQ H b κ ν fk fv m F) (hm:rp P t kt et):cn P n w0 ⟨d,.range t x,ty,pos,after,gu⟩ E H (λr=>ptr r 0) (λr=>Bs fk fv b r m m none*F):=by
 refine cn.mk' (pre:=mp fk fv b m) (post:=λr=>Bs fk fv b r m m none) (λG a w K Q s hs hK=> ?_) hl.eq;obtain⟨es,clock,l5,h1,h2,h3,hp⟩:=hs.oV;have hr:(Instr.range t (.map (some b))).run P w= .ok (ptr w.heap.size 0) (w.alloc (.mapIter (some b) clock #[] clock)):=by
  simp[Instr.range,run_underlying hm.eq,run_getObj_map l5]
 have eI:=hp.alloc (.mapIter (some b) clock #[] clock);simp only[Oper.wp,execOp,s.ev hx,Sem.run_bind,hr,Result.andThen_ok,Sem.run_pure,Oper.upon_value];refine hK w.heap.size _ (zE ⟨h1,h2,h3,h3,uL _,uL _,?_,(by intro p hp;cases hp),(by intro h;exact absurd rfl h)⟩ (eI.cast (aM _ _ _)));have e0:(es.toList.filter λe=> !(#[]:Array Nat).contains e.born)=es.toList:=List.filter_eq_self.2 (by simp);rw[e0];exact h1
def jC (left:List (κ×ν)):Type:={o:Option (Nat×κ×ν) // match o with|none=>left=[]|some (i,k,v)=>left[i]? =some (k,v)}
def jC.val (fk:κ->Value) (fv:ν->Value) {left:List (κ×ν)} (o:jC left):Value:=match o.1 with
 |none=> .tuple #[.bool false]
 |some (_,k,v)=> .tuple #[.bool true,fk k,fv v]
def jC.rest {left:List (κ×ν)} (o:jC left):List (κ×ν):=match o.1 with
 |none=>left
 |some (i,_,_)=>left.eraseIdx i
def jC.now {left:List (κ×ν)} (o:jC left) (c:Option (κ×ν)):Option (κ×ν):=match o.1 with
 |none=>c
 |some (_,k,v)=>some (k,v)
theorem filter_push (es:List MapEntry) (seen:Array Nat):∀(i:Nat) (e:MapEntry),(es.map (·.born)).Nodup->(es.filter λx=> !seen.contains x.born)[i]? =some e->
 (es.filter λx=> !(seen.push e.born).contains x.born)=(es.filter λx=> !seen.contains x.born).eraseIdx i:=by
 induction es with
 |nil=>intro i e _ h;simp at h
 |cons y es ih=>
  intro i e hn h
  simp only[Hh,uaA]at hn
  have F5:∀z,(seen.push e.born).contains z=(seen.contains z||z==e.born):=by
   intro z;rw[YX];simp
  by_cases hy:seen.contains y.born=true
  ·have e1:(!seen.contains y.born)=false:=by rw[hy];rfl
   have e2:(!(seen.push e.born).contains y.born)=false:=by rw[F5,hy];rfl
   simp only[uaH,e1,e2,AT,VC]at h ⊢
   exact ih i e hn.2 h
  ·have e1:(!seen.contains y.born)=true:=by simpa using hy
   simp only[uaH,e1,YZ]at h ⊢
   cases i with
   |zero=>
    simp at h;subst h
    have e2:(!(seen.push y.born).contains y.born)=false:=by rw[F5];simp
    simp only[e2,AT,VC,List.eraseIdx_cons_zero]
    apply List.filter_congr
    intro z hz
    have mi:z.born≠y.born:=λe=>hn.1 (by rw[<-e];exact HC.2 ⟨z,hz,rfl⟩)
    have:(z.born==y.born)=false:=by simpa using mi
    rw[F5,this,ubQ]
   |succ i=>
    simp at h
    have xk:e∈es:=(uaf.1 (jq h)).1
    have mi:y.born≠e.born:=λe'=>hn.1 (by rw[e'];exact HC.2 ⟨e,xk,rfl⟩)
    have h3:(y.born==e.born)=false:=by simpa using mi
    have e2:(!(seen.push e.born).contains y.born)=true:=by rw[F5,h3,ubQ];exact e1
    simp only[e2,YZ,uaJ]
    rw[ih i e hn.2 (by simpa using h)]
theorem z6 (hx:E.ev x=some (ptr r 0)) (hl:LN H r κ ν fk fv b m left cur F):cn P n w0 ⟨d,.next x false,ty,pos,after,gu⟩ E H (λo:jC left=>o.val fk fv) (λo=>Bs fk fv b r m o.rest (o.now cur)*F):=by
 refine cn.mk' (pre:=Bs fk fv b r m left cur) (post:=λo:jC left=>Bs fk fv b r m o.rest (o.now cur)) (λG a w K Q s hs hK=> ?_) hl.eq;obtain⟨es,clock,since,c0,seen,gG,hp⟩:=CJ hs;have hb:=hp.at_;have hr:=hp.p2.at_;have hlen:=G2 List.length gG.KF;simp only[Hu]at hlen;rcases run_next_at (P:=P) w ty r b since c0 seen es clock hr hb gG.KG gG.YG with ⟨h0,J8⟩|⟨e,he,w1,Iy,J8⟩
 ·simp only[leftOf]at h0;have En:left=[]:=HD (by rw[<-hlen,<-h0,<-uak,Array.toList_filter]);have:=hK ⟨none,En⟩ w hs;simp only[Oper.wp,execOp,s.ev hx,Sem.run_bind,J8,Result.andThen_ok,Sem.run_pure,Oper.upon_value];exact this
 ·have Mi:e∈es.toList.filter (λx=> !seen.contains x.born):=by simpa [leftOf]using he
  obtain⟨i,hi⟩:=JC Mi;have OO:=G2 (·[i]?) gG.KF;simp only[zA,hi,EL]at OO;cases hq:left[i]? with
  |none=>rw[hq]at OO;cases OO
  |some p=>
   rw[hq]at OO;simp only[EL,Z9,ua9]at OO;obtain⟨Cg,vS⟩:=OO;have xk:e∈es.toList:=(uaf.1 Mi).1;have je:Sat w0 w1 (pM b (.map es clock)*(pM r (.mapIter (some b) since seen c0)*G)):=by rcases Iy with rfl|rfl<;>first|exact hp|exact hp.drew
   have tM:Sat w0 (setBlock w1 r (.mapIter (some b) since (seen.push e.born) clock)) (pM b (.map es clock)*(pM r (.mapIter (some b) since (seen.push e.born) clock)*G)):=je.p2.setObj.p2;have xh:=hK ⟨some (i,p.1,p.2),hq⟩ _ (zE (left:=left.eraseIdx i) (cur:=some p) ⟨gG.Wx,gG.A6,gG.Nx,gG.KG,gG.KC,gG.KC,?_,?_,λ_=>rfl⟩ tM)
   ·simp only[Oper.wp,execOp,s.ev hx,Sem.run_bind,J8,Result.andThen_ok,Sem.run_pure,Oper.upon_value];rw[Cg,vS];exact xh
   ·rw[filter_push es.toList seen i e gG.A6 hi,fg,gG.KF,<-fg]
   ·intro p' qZ;cases qZ;exact⟨e,xk,seen,rfl,Cg,vS⟩
theorem pq {p} (hx:E.ev x=some (ptr r 0)) (hl:LN H r κ ν fk fv b m left (some p) F):OpQ P n w0 ⟨d,.entry x,ty,pos,after,gu⟩ E H (.tuple #[fk p.1,fv p.2]):=λa w s hs=>by
 obtain⟨es,clock,since,c0,seen,gG,hp⟩:=CJ (hs.cast hl.eq);obtain⟨e,he,s',rfl,Cg,vS⟩:=gG.U7 p rfl;have hc:=gG.zfs (by simp);subst hc;have:=run_entry_at (P:=P) w r b since s' es c0 e hp.p2.at_ hp.at_ he gG.A6;simp only[execOp,s.ev hx,Sem.run_bind,this,Result.andThen_ok,Sem.run_pure,Cg,vS]
end
end
section
open Go.RowKit
theorem List.zaq {α:Type}:∀{l:List α} {i:Nat} (h:i<l.length),(l[i]::l.eraseIdx i).Perm l
 |x::l,0,h=> .refl _
 |x::l,i+1,h=>(List.Perm.swap _ _ _).trans ((List.zaq (by simpa using h)).cons x)
theorem aq.mX {α:Type} {p:α->af} {H F:af} (x:α) (h:aq H (p x*F)):aq H (hex p*F):=h.trans (aq.qA (p:=p) x)
theorem lC {κ ν:Type} {pre:List κ} {left:List (κ×ν)} {l:List κ} {i:Nat} {k:κ} {v:ν} (hp:(pre++left.map (·.1)).Perm l) (hi:left[i]? =some (k,v)):(pre++[k]++(left.eraseIdx i).map (·.1)).Perm l:=by
 refine List.Perm.trans ?_ hp;rw[EK];refine ubB pre ?_;have h1:(left.map (·.1))[i]? =some k:=by simp[hi]
 have h2:(left.eraseIdx i).map (·.1)=(left.map (·.1)).eraseIdx i:=fg _ _ _;rw[h2];obtain⟨bW,he⟩:=az.1 h1;rw[<-he];exact List.zaq bW
theorem aq.ji {p:Prop} {H F:af} (hp:p) (h:aq H F):aq H (pure' p*F):=λx hx=>by
 obtain⟨y,hy,e⟩:=h x hx;exact⟨y,ki.2 ⟨hp,hy⟩,e⟩
variable {P:Program} {n:fT} {w0:World} {E:Env} {D:List Deferred} {H F F2 R:af} {t:TypeId} {v u:Value}
theorem pd (x:UInt32):x.toNat<4294967296:=x.toNat_lt
instance Tt {x y:UInt32} [a:zag v x] [b:zag u y]:dL P .and t v u (u32 (x&&& y)):=by
 cases a.eq;cases b.eq;refine⟨λw=> ?_,λw _ _=>bF _ _ _ _ _ _ _ _ _⟩;show(Op.intBits .and .u32 (x.toNat:Int) (y.toNat:Int)).run P w=_;rw[intBits_and,u32_and_nat _ _ (pd x) (pd y),<-UInt32.toNat_and];rfl
instance Wz {x y:UInt32} [a:zag v x] [b:zag u y]:dL P .or t v u (u32 (x|||y)):=by
 cases a.eq;cases b.eq;refine⟨λw=> ?_,λw _ _=>bF _ _ _ _ _ _ _ _ _⟩;show(Op.intBits .or .u32 (x.toNat:Int) (y.toNat:Int)).run P w=_;rw[intBits_or,u32_or_nat _ _ (pd x) (pd y),<-UInt32.toNat_or];rfl
instance Vr {x y:UInt32} [a:zag v x] [b:zag u y]:dL P .xor t v u (u32 (x ^^^ y)):=by
 cases a.eq;cases b.eq;refine⟨λw=> ?_,λw _ _=>bF _ _ _ _ _ _ _ _ _⟩;show(Op.intBits .xor .u32 (x.toNat:Int) (y.toNat:Int)).run P w=_;rw[intBits_xor,u32_xor_nat _ _ (pd x) (pd y),<-UInt32.toNat_xor];rfl
theorem KY {x q} (k) (kk:UInt32) (h:kk.toNat=k) (hk:k<32):dL P .shl t (u32 x) (.int q (k:Int)) (u32 (x<<<kk)):=by
 refine⟨λw=> ?_,λw _ _=>bF _ _ _ _ _ _ _ _ _⟩;have e:u32 (x<<<kk)= .int .u32 (IntKind.u32.wrap ((x.toNat:Int)*2 ^ k)):=by
  refine(pL ?_).symm;rw[uce,h,YJ hk,ucd,wrap_u32];simp
 rw[e];have h0:¬((k:Int)<0):=by omega
 have hm:min k 32=k:=by omega
 show(Op.shift .shl .u32 (x.toNat:Int) q (k:Int)).run P w=_;unfold Op.shift;rw[eQ h0];show Result.ok (Value.int .u32 (IntKind.u32.wrap ((x.toNat:Int)*(2 ^ min (k:Int).toNat 32)))) w=_;rw[D3,hm]
instance {x:UInt32}:dL P .shl t (u32 x) (.int .u64 24) (u32 (x<<<24)):=KY 24 24 rfl (by decide)
instance {x:UInt32}:dL P .shl t (u32 x) (.int .u64 16) (u32 (x<<<16)):=KY 16 16 rfl (by decide)
instance {x:UInt32}:dL P .shl t (u32 x) (.int .u64 8) (u32 (x<<<8)):=KY 8 8 rfl (by decide)
theorem KB (a b c d:UInt8):(a.toUInt32<<<24|||b.toUInt32<<<16|||c.toUInt32<<<8|||d.toUInt32)=num a b c d:=by
 rw[<-HL,tY];have h1:=a.toNat_lt;have h2:=b.toNat_lt;have h3:=c.toNat_lt;have h4:=d.toNat_lt;simp only[UInt32.toNat_or,uce,UInt8.toNat_toUInt32];have e1:(24:UInt32).toNat % 32=24:=rfl;have e2:(16:UInt32).toNat % 32=16:=rfl;have e3:(8:UInt32).toNat % 32=8:=rfl;rw[e1,e2,e3];simp only[ucd];rw[YJ (by omega),YJ (by omega),YJ (by omega)];have k1:a.toNat*2 ^ 24|||b.toNat*2 ^ 16=a.toNat*2 ^ 24+b.toNat*2 ^ 16:=by
  have:=ua7 (i:=24) (b:=b.toNat*2 ^ 16) (by omega) a.toNat;rw[Nat.mul_comm (2 ^ 24)]at this;exact this.symm
 have k2:(a.toNat*2 ^ 24+b.toNat*2 ^ 16)|||c.toNat*2 ^ 8=a.toNat*2 ^ 24+b.toNat*2 ^ 16+c.toNat*2 ^ 8:=by
  have:=ua7 (i:=16) (b:=c.toNat*2 ^ 8) (by omega) (a.toNat*256+b.toNat);have e:2 ^ 16*(a.toNat*256+b.toNat)=a.toNat*2 ^ 24+b.toNat*2 ^ 16:=by omega
  rw[e]at this;exact this.symm
 have k3:(a.toNat*2 ^ 24+b.toNat*2 ^ 16+c.toNat*2 ^ 8)|||d.toNat=a.toNat*2 ^ 24+b.toNat*2 ^ 16+c.toNat*2 ^ 8+d.toNat:=by
  have:=ua7 (i:=8) (b:=d.toNat) (by omega) (a.toNat*65536+b.toNat*256+c.toNat);have e:2 ^ 8*(a.toNat*65536+b.toNat*256+c.toNat)=a.toNat*2 ^ 24+b.toNat*2 ^ 16+c.toNat*2 ^ 8:=by omega
  rw[e]at this;exact this.symm
 rw[k1,k2,k3]
theorem fx {l:List UInt8} {i} (h:i<l.length):l[i]? =some (dW l i):=by simp[dW,h]
end
section
open Go.RowKit
variable {P:Program} {w0:World}
theorem uS {n} {E:Env} {H d ty pos after gu x v t} (hx:E.ev x=some v) (h:P.concrete t=true):OpQ P n w0 ⟨d,.makeInterface t x,ty,pos,after,gu⟩ E H (.iface t v):=λa w s hs=>by
 simp[execOp,s.ev hx,run_makeInterface (w:=w) t v h]
def ox:FrameMode->Value×FrameMode
 | .panicking ({v,recovered:=false,goexit:=false}::Ny)=>(v,.panicking ({v,recovered:=true}::Ny))
 |u=>(.nilIface,u)
theorem C8 (c₀:Frame) (cs u) (hu:c₀.mode=u):(recoverD (c₀::cs)=some ((ox u).1,{c₀ with mode:=(ox u).2}::cs))\/(recoverD (c₀::cs)=none/\ox u=(.nilIface,u)):=by
 subst hu;cases hm:c₀.mode with
 |panicking ch=>
  cases ch with
  |nil=>simp[recoverD,ox,hm]
  |cons p Ny=>obtain⟨v,r,g⟩:=p;cases r<;>cases g<;>simp[recoverD,ox,hm]
 |_=>simp[recoverD,ox,hm]
theorem iQ.JH {f} {fn:Func} {c2} {args:List Value} {u H K m id d d2 ty Tl pos ME after Af Th b} (hf:P.funcs[f]? =some fn) (hb:fn.body=some (.seq (.region id #[⟨some d,.call ⟨.builtin .recover,#[],#[]⟩,ty,pos,after,none⟩,⟨some d2,Th,Tl,ME,Af,none⟩] false) c2)) (hn:fn.ntmps=m) (hle:Nat.ble args.length m=true) (hd:Nat.blt d m=true) (rU:Nat.blt d2 m=true) (iZ:OpQ P ⟨m,none⟩ w0 ⟨some d2,Th,Tl,ME,Af,none⟩ ((d,(ox u).1)::aN 0 args) H (.bool b)) (h:WS P ⟨m,none⟩ w0 c2 (Bf P ⟨m,none⟩ w0 fn λv H'=>K (ox u).2 H') ⟨(d2,.bool b)::(d,(ox u).1)::aN 0 args,[],H⟩):iQ P w0 f args u H K:=by
 intro w hs;subst hn;refine callsDIn_of_wpSIn hf hb trivial λc₀ cs hu=> ?_;refine wpSIn_seq (wpSIn_region ?_);have s0:=nJ (args:=args) hle;have s1:fV ⟨fn.ntmps,none⟩ ((d,(ox u).1)::aN 0 args) (Act.put ⟨args.toArray++Array.replicate (fn.ntmps - args.toArray.size) undef,[]⟩ (some d) (ox u).1):=s0.put _ hd;have s2:=s1.put (.bool b) rU;have S0:∀a:Act,(execOp a.eval ⟨some d,.call ⟨.builtin .recover,#[],#[]⟩,ty,pos,after,none⟩).run P w= .ok .recover w:=λa=>by
  rfl
 have Lu:=iZ _ w s1 hs;have rest:∀(nv:List Frame),nv={c₀ with mode:=(ox u).2}::cs->c2.wpSIn (uW none) 0 P (bodyPostS P fn c₀ cs λe u' w'=>∃v H',e=Ending.returned v/\Sat w0 w' H'/\K u' H') ((Act.put ⟨args.toArray++Array.replicate (fn.ntmps - args.toArray.size) undef,[]⟩ (some d) (ox u).1).put (some d2) (.bool b)) nv w:=by
  rintro nv rfl;refine wpSIn_of_wpIn rfl (wpIn_mono (h _ w ⟨s2,rfl,hs⟩) ?_);rintro e a w' ⟨σ,h1,h2⟩;cases e with
  |normal=>obtain⟨hD,v,hr,hK⟩:=h1;exact⟨h2.defers.trans hD,_,rfl,v,hr a w' h2,v,σ.H,rfl,h2.sat,hK⟩
  |ret=>obtain⟨hD,v,hr,hK⟩:=h1;exact⟨h2.defers.trans hD,_,rfl,v,hr a w' h2,v,σ.H,rfl,h2.sat,hK⟩
  |_=>exact h1.elim
 have e0:(List.range (#[(⟨some d,.call ⟨.builtin .recover,#[],#[]⟩,ty,pos,after,none⟩:Oper),⟨some d2,Th,Tl,ME,Af,none⟩]:Array Oper).size)=[0,1]:=rfl;rw[e0];have tail:∀(nv:List Frame),nv={c₀ with mode:=(ox u).2}::cs->wpOpsSIn (uW none) 0 P #[⟨some d,.call ⟨.builtin .recover,#[],#[]⟩,ty,pos,after,none⟩,⟨some d2,Th,Tl,ME,Af,none⟩] (Exit.thenS (c2.wpSIn (uW none) 0 P (bodyPostS P fn c₀ cs λe u' w'=>∃v H',e=Ending.returned v/\Sat w0 w' H'/\K u' H')) (bodyPostS P fn c₀ cs λe u' w'=>∃v H',e=Ending.returned v/\Sat w0 w' H'/\K u' H')) [1] (Act.put ⟨args.toArray++Array.replicate (fn.ntmps - args.toArray.size) undef,[]⟩ (some d) (ox u).1) nv w:=by
  intro nv zm;simp only[wpOpsSIn,uco,List.getElem?_cons_succ,ub9];refine⟨λ_ _=>trivial,?_⟩;rw[jF (by rfl),Lu];exact rest nv zm
 unfold wpOpsSIn;simp only[uco,ub9];refine⟨λ_ _=>trivial,?_⟩;rw[jF (by rfl),S0];rcases C8 c₀ cs u hu with h1|⟨h1,h2⟩
 ·simp only[h1];exact tail _ rfl
 ·simp only[h1];have:(ox u).1= .nilIface:=by rw[h2]
  rw[<-this];refine tail _ ?_;rw[h2];subst hu;rfl
class DC (P:Program) (t:TypeId):Prop where
 eq:P.underlying t=some (.interface (P.methodsAt t))
instance Tb {t u:TypeId} {x:Value} [h:DC P t]:dL P .neq t (.iface u x) .nilIface (.bool true):=⟨λw=>run_neq_held_nil (w:=w) t u x h.eq,λw _ _=>by rfl⟩
theorem GK {n} {E:Env} {H d ty t t2 pos after gu x} (hx:E.ev x=some .nilIface) (h:DC P t):OpQ P n w0 ⟨d,.binOp .neq t x (.const .nilIface) t2,ty,pos,after,gu⟩ E H (.bool false):=λa w s hs=>by
 have e:=s.ev hx;have e2:a.eval (.const .nilIface)= .nilIface:=rfl;have hr:=run_neq_nil_nil (w:=w) t h.eq;have hg:(eqGuard .neq t x (.const .nilIface) .nilIface .nilIface).run P w= .ok () w:=by simp[eqGuard]
 simp only[execOp,e,e2,Sem.run_bind,hg,hr,Result.andThen_ok,Sem.run_pure]
end
section
open Go.RowKit
attribute [local irreducible] WS LS OpQ y6 cn cv Spec bA iR iQ aK
variable (w0:World)
theorem oc (l:List UInt8) (h:4<=l.length) (v X) [hX:eX w0 X v UInt8 1 bU l]:Spec ucC w0 111 [v] X (λ_:Unit=>u32 (bm l 0)) (λ_=>X):=by
 refine eZ Tryz.func111 Tryz.ntmps111 λG=> ?_;simp only[aN];have h0:=fx (l:=l) (i:=0) (by omega);have h1:=fx (l:=l) (i:=1) (by omega);have h2:=fx (l:=l) (i:=2) (by omega);have h3:=fx (l:=l) (i:=3) (by omega);repeat' (first|refine ag (id:=1) (.range 23) ?_|intro K hK|refine ax ?_|((first|refine' LQ ?zh rfl ?_|refine' bk rfl rfl ?zh ?_);case zh=>intro F';exact po rfl iI iI)|refine zgQ ?_)
 exact aC (.inl rfl) rfl rfl ⟨(),by rw[bm,<-KB],ah⟩
theorem cg (l:List UInt8) (h:4<=l.length):Spec ucC w0 148 [aZ l] emp (λ_:Unit=>u32 (bm l 0)) (λ_=>emp):=by
 refine eZ Tryz.func148 Tryz.ntmps148 λG=> ?_;simp only[aN];have h0:=fx (l:=l) (i:=0) (by omega);have h1:=fx (l:=l) (i:=1) (by omega);have h2:=fx (l:=l) (i:=2) (by omega);have h3:=fx (l:=l) (i:=3) (by omega);repeat' (first|refine ag (id:=1) (.range 19) ?_|intro K hK|refine ax ?_|((first|refine' LQ ?zh rfl ?_|refine' bk rfl rfl ?zh ?_);case zh=>intro F';first|exact po rfl iI iI|exact eH rfl rfl iI iI (by assumption))|refine zgQ ?_)
 exact aC (.inl rfl) rfl rfl ⟨(),by rw[bm,<-KB],ah⟩
def brk:List PanicEntry:=[{v:= .iface 232 (.agg #[]),recovered:=false}]
theorem Kv:Spec ucC w0 72 [.bool true] emp (λ_:Unit=> .tuple #[]) (λ_=>emp):=by
 refine eZ Tryz.func72 Tryz.ntmps72 λG=> ?_;simp only[aN];repeat' (first|intro hc|refine xyZ ?_|refine aF ?_ ?_)
 exact aj (.inr rfl) rfl ⟨(),rfl,ah⟩
theorem Ku:iR ucC w0 72 [.bool false] emp brk emp:=by
 refine iR.enter Tryz.func72 rfl Tryz.ntmps72 rfl λG=> ?_;simp only[aN];repeat' (first|intro hc|refine xyZ ?_|refine aF ?_ ?_|refine lI (uS rfl (by kernel_rfl)) rfl ?_|refine IS rfl ?_)
 exact⟨rfl,rfl,ah⟩
section reader
variable (l:List UInt8) (v:Value) (g:Nat) (X:af) [hX:eX w0 X v UInt8 1 bU l]
include hX in
theorem Fk (k:Nat) (x:Int) (hx:x=(k:Int)) (hk:k<=l.length):Spec ucC w0 74 [ptr g 0,.int .i64 x] (aK g 176 [v]*X) (λ_:Unit=>di v k) (λ_=>aK g 176 [cq 1 v k]*X):=by
 subst hx;refine eZ Tryz.func74 Tryz.ntmps74 λG=> ?_;simp only[aN];repeat' (first|intro K hK|refine ax ?_|refine zgV ?_|refine bQ λg=> ?_|refine cZ (Kv w0) λu=> ?_)
 exact aC (.inl rfl) rfl rfl ⟨(),rfl,ah⟩
include hX in
theorem Fj (k:Nat) (x:Int) (hx:x=(k:Int)) (hk:l.length<k):iR ucC w0 74 [ptr g 0,.int .i64 x] (aK g 176 [v]*X) brk (aK g 176 [v]*X):=by
 subst hx;refine iR.enter Tryz.func74 rfl Tryz.ntmps74 rfl λG=> ?_;simp only[aN];repeat' (first|intro K hK|refine ax ?_|refine lG iI rfl (Ku w0) iI ?_|refine ij ?_)
 exact⟨rfl,rfl,ah⟩
include hX in
theorem R0 (hk:1<=l.length):Spec ucC w0 71 [ptr g 0] (aK g 176 [v]*X) (λ_:Unit=> .int .i64 ((dW l 0).toNat:Int)) (λ_=>aK g 176 [cq 1 v 1]*X):=by
 refine eZ Tryz.func71 Tryz.ntmps71 λG=> ?_;simp only[aN];have h0:(l.take 1)[0]? =some (dW l 0):=by rw[G3,jF (by omega)];exact fx (by omega)
 have hlen:(l.take 1).length=1:=by simp;omega
 repeat' (first|intro K hK|refine ax ?_|((refine' LQ ?zh rfl ?_);case zh=>intro F';exact fu rfl iI iI)|refine cZ (Fk w0 l v g X 1 1 rfl hk) λu=> ?_)
 exact aC (.inl rfl) rfl rfl ⟨(),rfl,ah⟩
include hX in
theorem RZ (hk:l.length<1):iR ucC w0 71 [ptr g 0] (aK g 176 [v]*X) brk (aK g 176 [v]*X):=by
 refine iR.enter Tryz.func71 rfl Tryz.ntmps71 rfl λG=> ?_;simp only[aN];repeat' (first|intro K hK|refine ax ?_|refine lG iI rfl (Fj w0 l v g X 1 1 rfl hk) iI ?_|refine ij ?_)
 exact⟨rfl,rfl,ah⟩
include hX in
theorem AF (hk:4<=l.length):Spec ucC w0 73 [ptr g 0] (aK g 176 [v]*X) (λ_:Unit=>u32 (bm l 0)) (λ_=>aK g 176 [cq 1 v 4]*X):=by
 refine eZ Tryz.func73 Tryz.ntmps73 λG=> ?_;simp only[aN];have hn:=oc w0 (l.take 4) (by simp;omega) (di v 4) X;have e:bm (l.take 4) 0=bm l 0:=by simp[bm,dW,G3]
 rw[e]at hn;repeat' (first|intro K hK|refine ax ?_|refine cZ (Fk w0 l v g X 4 4 rfl hk) λu=> ?_|refine cZ hn λu=> ?_)
 exact aC (.inl rfl) rfl rfl ⟨(),rfl,ah⟩
include hX in
theorem Ed (hk:l.length<4):iR ucC w0 73 [ptr g 0] (aK g 176 [v]*X) brk (aK g 176 [v]*X):=by
 refine iR.enter Tryz.func73 rfl Tryz.ntmps73 rfl λG=> ?_;simp only[aN];repeat' (first|intro K hK|refine ax ?_|refine lG iI rfl (Fj w0 l v g X 4 4 rfl hk) iI ?_|refine ij ?_)
 exact⟨rfl,rfl,ah⟩
end reader
end
section
open Go.RowKit
variable {P:Program} {n:fT} {w0:World} {E:Env} {D:List Deferred} {H F F2 R:af} {ops:Array Oper} {Q:Exit->St->Prop} {σ:St}
def Gc (m:Nat):List Nat->Array Bool
 |[]=>Array.replicate m false
 |i::r=>(Gc m r).setIfInBounds i true
def AS (P:Program) (n:fT) (w0:World) (ops:Array Oper) (Q:Exit->St->Prop) (done:List Nat) (σ:St):Prop:=
 ∀a w,Good n w0 σ a w->wpAnyIn (uW n.round) 0 P .any ops (lift n w0 Q) (ops.size - done.length) (Gc ops.size done) a w
def AO (P:Program) (n:fT) (w0:World) (ops:Array Oper) (Q:Exit->St->Prop) (done:List Nat) (i:Nat) (σ:St):Prop:=
 ∀a w,Good n w0 σ a w->wpOpIn (uW n.round) 0 P ops (lift n w0 Q) i (wpAnyIn (uW n.round) 0 P .any ops (lift n w0 Q) (ops.size - (i::done).length) (Gc ops.size (i::done))) a w
def N3 (P:Program) (n:fT) (w0:World) (ops:Array Oper) (Q:Exit->St->Prop) (done:List Nat) (σ:St):List Nat->Prop
 |[]=>True
 |i::r=>AO P n w0 ops Q done i σ/\N3 P n w0 ops Q done σ r
theorem BP {done:List Nat}:∀{r:List Nat},N3 P n w0 ops Q done σ r->∀i∈r,AO P n w0 ops Q done i σ
 |[],_,i,hi=>by cases hi
 |j::r,h,i,hi=>by
  rcases JA.1 hi with rfl|hi
  ·exact h.1
  ·exact BP h.2 i hi
theorem aw {done r:List Nat} (hr:Region.ready .any ops (Gc ops.size done)=r) (bW:Nat.blt done.length ops.size=true) (mi:r.isEmpty=false) (h:N3 P n w0 ops Q done σ r):AS P n w0 ops Q done σ:=λa w g=>by
 have XU:done.length<ops.size:=by simpa using bW
 obtain⟨f,hf⟩:∃f,ops.size - done.length=f+1:=⟨ops.size - done.length - 1,by omega⟩
 have mF:ops.size - ((0:Nat)::done).length=f:=by simp;omega
 rw[hf];refine⟨λh0=> ?_,λi hi=> ?_⟩
 ·rw[hr]at h0;subst h0;cases mi
 ·rw[hr]at hi;have:=BP h i hi a w g;have e:ops.size - (i::done).length=f:=by simp;omega
  rw[e]at this;exact this
theorem cu {done:List Nat} {i d:Nat} {op:Op} {ty:TypeId} {pos:String} {after:Array Edge} {v:Value} (hi:ops[i]? =some ⟨some d,op,ty,pos,after,none⟩) (iZ:OpQ P n w0 ⟨some d,op,ty,pos,after,none⟩ E H v) (hd:Nat.blt d n.tmps=true) (h:AS P n w0 ops Q (i::done) ⟨(d,v)::E,D,H⟩):AO P n w0 ops Q done i ⟨E,D,H⟩:=λa w g=>by
 unfold wpOpIn;rw[hi];simp only;rw[jF (by rfl)];exact iZ.K5 g.dQ g.sat (h _ _ ⟨g.dQ.zaI (some d) _ hd,g.defers,g.sat⟩)
theorem kv {done:List Nat} {i d:Nat} {op:Op} {ty:TypeId} {pos:String} {after:Array Edge} {α:Type} {v:α->Value} {post:α->af} (hi:ops[i]? =some ⟨some d,op,ty,pos,after,none⟩) (iZ:cn P n w0 ⟨some d,op,ty,pos,after,none⟩ E H v post) (hd:Nat.blt d n.tmps=true) (h:∀x,AS P n w0 ops Q (i::done) ⟨(d,v x)::E,D,post x⟩):AO P n w0 ops Q done i ⟨E,D,H⟩:=λa w g=>by
 unfold wpOpIn;rw[hi];simp only;rw[jF (by rfl)];obtain⟨pre,mr,G,hT,hH,hp⟩:=iZ;exact hT.K5 G g.dQ (g.sat.cast hH) λx w' hs=>h x _ _ ⟨g.dQ.zaI (some d) _ hd,g.defers,hs.cast (hp x).symm⟩
theorem dq {done:List Nat} {i:Nat} {f:FuncId} {args:List Value} {pre post:af} {chain:List PanicEntry} {d:Option Tmp} {xs:List Operand} {ts:Array TypeId} {ty:TypeId} {pos:String} {after:Array Edge} (hi:ops[i]? =some ⟨d,.call ⟨.value (.func f),xs.toArray,ts⟩,ty,pos,after,none⟩) (hf:aA P f) (eB:E.mU xs=some args) (spec:iR P w0 f args pre chain post) (hH:Own H pre F) (h:Q (.panic chain) ⟨E,D,post*F⟩):AO P n w0 ops Q done i ⟨E,D,H⟩:=λa w g=>by
 unfold wpOpIn;rw[hi];simp only;rw[jF (by rfl)];refine jB (.inr (λc hc=>by cases hc)) ?_;have e:=g.dQ.mU eB;have hr:(execOp a.eval ⟨d,.call ⟨.value (.func f),xs.toArray,ts⟩,ty,pos,after,none⟩).run P w= .ok (.enter f args.toArray) w:=by
  exact paK
 unfold Oper.wp;rw[hr];refine(spec F w (g.sat.cast hH.eq)).mono ?_;rintro e w' ⟨rfl,eI⟩;exact⟨_,h,g.dQ,g.defers,eI⟩
theorem wz {id} {l:List Oper} (hm:P.follows .mixedOrders=true) (h:AS P n w0 l.toArray Q [] ⟨E,D,H⟩):WS P n w0 (.region id l.toArray true) Q ⟨E,D,H⟩:=λa w g=>by
 refine wpIn_region_any hm ?_;exact h a w.drew ⟨g.dQ,g.defers,g.sat.drew⟩
theorem BJ {l l':List Oper} {id} (t idx cp bs) {g off bt cs} (hs:iT P l idx (yA bs) cp=true) (hl:jK l idx=some l') (hx:E.get t=some (ptr g off)) (hL:v7 H g bt cs F) (h:DL P n w0 l.toArray Q D emp (aK g bt cs) (yA bs) cp 0 false l' E F):WS P n w0 (.region id l.toArray true) Q ⟨E,D,H⟩:=
 iK idx l' emp (aK g bt cs) F _ cp hs (by rw[aB];exact hL.eq) (gO hl) h
theorem cK {l l':List Oper} {id:Nat} (t:Nat) (idx:List Nat) (cp:Nat) (bs:List Nat) {g off:Nat} {bt:TypeId} {cs:List Value} (h:DL P n w0 l.toArray Q D emp (aK g bt cs) (yA bs) cp 0 false l' E F) (hs:iT P l idx (yA bs) cp=true:=by decide+kernel) (hl:jK l idx=some l':=by rfl) (hx:E.get t=some (ptr g off):=by rfl) (hL:v7 H g bt cs F:=by exact iI):WS P n w0 (.region id l.toArray true) Q ⟨E,D,H⟩:=BJ t idx cp bs hs hl hx hL h
theorem I7 {l l':List Oper} {id:Nat} (t t2:Nat) (idx:List Nat) (cp:Nat) (bs:List Nat) {g off g2 A5:Nat} {bt rJ:TypeId} {cs pV:List Value} {F1:af} (hs:iT P l idx (yA bs) cp=true) (hl:jK l idx=some l') (hx:E.get t=some (ptr g off)) (qb:E.get t2=some (ptr g2 A5)) (hR:v7 H g2 rJ pV F1) (hL:v7 F1 g bt cs F) (h:DL P n w0 l.toArray Q D (aK g2 rJ pV) (aK g bt cs) (yA bs) cp 0 false l' E F):WS P n w0 (.region id l.toArray true) Q ⟨E,D,H⟩:=
 iK idx l' (aK g2 rJ pV) (aK g bt cs) F _ cp hs (by rw[hR.eq,hL.eq]) (gO hl) h
theorem zaN {l l':List Oper} {id:Nat} (t t2:Nat) (idx:List Nat) (cp:Nat) (bs:List Nat) {g off g2 A5:Nat} {bt rJ:TypeId} {cs pV:List Value} {F1:af} (h:DL P n w0 l.toArray Q D (aK g2 rJ pV) (aK g bt cs) (yA bs) cp 0 false l' E F) (hs:iT P l idx (yA bs) cp=true:=by decide+kernel) (hl:jK l idx=some l':=by rfl) (hx:E.get t=some (ptr g off):=by rfl) (qb:E.get t2=some (ptr g2 A5):=by rfl) (hR:v7 H g2 rJ pV F1:=by exact iI) (hL:v7 F1 g bt cs F:=by exact iI):WS P n w0 (.region id l.toArray true) Q ⟨E,D,H⟩:=I7 t t2 idx cp bs hs hl hx qb hR hL h
end
end Go.Proofs.YtapoehkdnglahabGreat
