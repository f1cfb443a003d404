/- A part of what Nodes needs. -/
import Derived.Test.YtapoehkdnglahabGreatNodesGp
set_option maxHeartbeats 16000000
set_option maxRecDepth 100000
set_option linter.unusedVariables false
set_option linter.unusedSimpArgs false
set_option linter.unusedSectionVars false
namespace Go.Proofs.YtapoehkdnglahabGreat
section
open Go.RowKit
def TA (f:FuncId):Value:= .func (.func f) #[] #[]
instance Qx (f:FuncId):hU TA (.func (.func f) #[] #[]) f:=⟨rfl⟩
section
variable {P:Program} {n:fT} {w0:World} {E:Env} {D:List Deferred} {H F F1 F2:af} {Q:Exit→St→Prop} {l l':List Oper}
theorem IM {κ ν:Type} [DecidableEq κ] {fk:κ→Value} {fv:ν→Value} {r:Nat} {m:List (κ×ν)} {ty:TypeId} {pos:String} {after:Array Edge} {gu:Option (Tmp×Bool)} {x y z':Operand} {t kt et:TypeId} {k:κ} {v:Value} {u:ν} {uv:Value} (hx:E.ev x=some (.map (some r))) (hy:E.ev y=some v) (hz:E.ev z'=some uv) (hl:jQ H r κ ν fk fv m F) (u6:hU fk v k) (UN:hU fv uv u) (hm:rp P t kt et) (hk:ou P kt fk):
 cn P n w0 ⟨none,.insert t x y z',ty,pos,after,gu⟩ E H (fun _:Unit=>undef) (fun _=>mp fk fv r (bY m k u)*F):=by
 obtain rfl:=u6.eq
 obtain rfl:=UN.eq
 refine cn.mk' (pre:=mp fk fv r m) (post:=fun _=>mp fk fv r (bY m k u)) (fun G a w K Q s hs hK=> ?_) hl.eq
 obtain⟨w',hr,eI⟩:=qo (k:=k) (u:=u) w hm.eq hs
 have:=hK () w' eI
 simp only[Act.put]at this
 simp only[Oper.wp,execOp,s.ev hx,s.ev hy,s.ev hz,Sem.run_bind,hr,Result.andThen_ok,Sem.run_pure,Oper.upon_skip]
 exact this
theorem Ft {ops:Array Oper} {R:af} {B:Nat→Bool} {cp k:Nat} {o:Oper} {ls:List Oper} {v:Value} (he:mD o.op=false) (hd:gC n o.dst=true) (hB:B (k+1000)=true) (hg:o.guard=none) (iZ:cD P n w0 o E (R*F) v) (h:DL P n w0 ops Q D R emp B cp (k+1) false ls (E.hJ o.dst v) F):DL P n w0 ops Q D R emp B cp k false (o::ls) E F:=
 .qs he hd hB ⟨true,by unfold fO;rw[hg]⟩ (by show cD P n w0 o E (R*(emp*F)) v;rw[aB];exact iZ) h
theorem nB {id:Nat} (t t2 t3:Nat) (idx bs:List Nat) {g off g2 A5 g3 U8:Nat} {bt rJ DV:TypeId} {cs pV D2:List Value} (hs:iT P l idx (yA bs) 1000=true) (hl:jK l idx=some l') (hx:E.get t=some (ptr g off)) (qb:E.get t2=some (ptr g2 A5)) (Wo:E.get t3=some (ptr g3 U8)) (hR:cZ H g bt cs F1) (Ca:cZ F1 g2 rJ pV F2) (QL:cZ F2 g3 DV D2 F) (h:DL P n w0 l.toArray Q D (aK g bt cs*(aK g2 rJ pV*aK g3 DV D2)) emp (yA bs) 1000 0 false l' E F):WS P n w0 (.region id l.toArray true) Q ⟨E,D,H⟩:=
 iK idx l' (aK g bt cs*(aK g2 rJ pV*aK g3 DV D2)) emp F _ 1000 hs (by rw[aB,hR.eq,Ca.eq,QL.eq,ad,ad]) (gO hl) h
end
def QM:List (Int×FuncId):=[(1,118),(2,119),(3,120),(9,121)]
attribute [local irreducible] WS LS cD eM cn cv Spec bA aK
variable (w0:World)
theorem yx:Spec Tryz.prog w0 69 [] emp (fun r:Nat=> .map (some r)) (fun r=>mp i64 TA r QM):=by
 refine Spec.enter Tryz.func69 rfl Tryz.ntmps69 rfl fun G=> ?_
 simp only[aN]
 repeat' (first|(refine ab ?_;intro K hK)|(refine hK _ ?_;clear hK K)|refine ax ?_|refine az ?_|(refine ai (ew i64 TA) rfl ?_;intro r)|(refine bL (IM rfl rfl rfl iI iI iI iI iI) ?_;intro g))
 exact aC (.inl rfl) rfl rfl ⟨r,rfl,ah⟩
theorem Nd.KR {s:Nd} {now:UInt64} {src:UInt32} {f:cP} (h:s.LK now src f):s.mb now src f=s.gQ now src f:=by
 unfold Nd.mb
 rcases h with h|h|h
 ·rw[h]
 ·cases Pk.dec f with
  |none=>rfl
  |some p=>
   simp only
   rw[if_pos]
   rcases h with h|h
   ·exact .inl h
   ·exact .inr (.inl h)
 ·cases Pk.dec f with
  |none=>rfl
  |some p=>simp only;rw[if_pos (.inr (.inr h))]
theorem HU (gn:Nat) (s:Nd) (now:UInt64) (src:UInt32) (f:cP) (hi:s.Inv) (hf:f.length≤100000) (qB:s.Fit 8) (OA:s.out.aJ.length≤10000) (uD:s.out.dropped.length≤10000) (bf br bn bw:Nat) (tf tr tn tw:TypeId) (v:Value) (X:af) [hX:eX w0 X v UInt8 1 bU f]:
 Spec Tryz.prog w0 65 [ptr bf 0,ptr br 0,ptr bn 0,ptr bw 0] (eD gn s*(aK bf tf [v]*(aK br tr [u32 src]*(aK bn tn [ptr gn 0]*(aK bw tw [u64 now]*X))))) (fun _:Unit=> .tuple #[]) (fun _=>eD gn (s.mb now src f)*X):=by
 by_cases hq:s.LK now src f
 ·rw[Nd.KR hq]
  exact HV w0 gn s now src f hq hf OA uD bf br bn bw tf tr tn tw v X
 obtain⟨p,hp⟩:∃p,Pk.dec f=some p:=by
  cases h:Pk.dec f with
  |none=>exact absurd (.inl h) hq
  |some p=>exact⟨p,rfl⟩
 have h1:¬src=0:=fun e=>hq (.inr (.inl (.inl e)))
 have h2:¬src=s.self:=fun e=>hq (.inr (.inl (.inr e)))
 have h3:¬now<s.cd:=fun e=>hq (.inr (.inr e))
 have es:s.mb now src f=s.handle src p:=by
  unfold Nd.mb
  rw[hp]
  simp only
  rw[if_neg]
  rintro(e|e|e)
  ·exact h1 e
  ·exact h2 e
  ·exact h3 e
 have Ls:=Pk.rN hp
 have hk:p.kind=1∨p.kind=2∨p.kind=3∨p.kind=9:=by
  obtain⟨⟨_,hk⟩,_⟩:=Pk.oM hp
  rcases hk with hk|hk|hk|hk
  ·exact .inl hk.1
  ·exact .inr (.inl hk.1)
  ·exact .inr (.inr (.inl hk.1))
  ·exact .inr (.inr (.inr hk.1))
 have Ch:s.handle src p=if p.kind=1 then s.qd src p else if p.kind=2 then s.rep src p else if p.kind=3 then s.xC src p else s.ov src p:=rfl
 have Cm:=gS hi p.dest
 refine Spec.enter Tryz.func65 rfl Tryz.ntmps65 rfl fun G=> ?_
 rw[ad (eD gn s)]
 refine wA fun h=> ?_
 have p1:=sT w0 f hf v X
 have q1:=fun vl=>Be w0 gn s h src p Ls vl hi.dp.dp hi.order (qB.le (by omega))
 have q2:=fun vl=>E6 w0 gn s h src p Ls vl hi.dp.dp hi.sr (by omega) (fun t ht=>by have:=Cm.2 t ht;omega) (qB.le (by omega))
 have q3:=fun vl=>EF w0 gn s h src p Ls vl (qB.le (by omega))
 have q4:=fun vl=>G8 w0 gn s h src p Ls vl hi.dp.dp (qB.le (by omega))
 unfold j6 ey at p1
 simp only[hp,Option.getD_some,Option.isSome_some]at p1
 rw[es,Ch]
 clear es Ch hq hp Ls Cm
 obtain⟨bK,kind,aH,unknown,id,dest,ak,QH,av,bD,lost,ar⟩:=p
 simp only[Pk.val,Pk.cells]at p1 q1 q2 q3 q4 hk ⊢
 have p2:=yx w0
 simp only[bG,aY,bb]at q1 q2 q3 q4 ⊢
 simp only[aN]
 rcases hk with rfl|rfl|rfl|rfl
 ·rw[if_pos rfl]
  clear q2 q3 q4
  repeat' (first|refine ag (id:=2) (.range 15) ?_|refine ag (id:=4) (.range 7) ?_|(refine ab ?_;intro K hK)|(refine hK _ ?_;clear hK K)|refine ax ?_|(refine aF ?_ ?_<;>intro hc<;>(try simp only[cS]at hc)<;>(try exact aG))|refine aX ?_|refine az ?_|(refine bT ?_;intro g)|(refine bQ ?_;intro g)|(refine ai (aa iI rfl p1 iI) rfl ?_;intro vl)|(show WS _ _ _ (.region 1 _ true) _ _;refine nB 4 2 1 [1,2,4,5,6,0,3,7] [1006] (by decide+kernel) rfl rfl rfl rfl iI iI iI ?_)|(refine aD (aa iI rfl p2 ⟨aB.symm⟩) rfl rfl rfl ?_;intro r)|(refine' Ft rfl rfl rfl rfl ?zh ?_;(case zh=>exact fh rfl rfl iI iI iI iI iI rfl))|(refine aD (rm iI rfl rfl (q1 _) iI) rfl rfl rfl ?_;intro u5))
  exact aj (.inr rfl) rfl ⟨(),rfl,by rw[ad (eD _ _)];exact ah⟩
 ·rw[if_neg (by decide),if_pos rfl]
  clear q1 q3 q4
  repeat' (first|refine ag (id:=2) (.range 15) ?_|refine ag (id:=4) (.range 7) ?_|(refine ab ?_;intro K hK)|(refine hK _ ?_;clear hK K)|refine ax ?_|(refine aF ?_ ?_<;>intro hc<;>(try simp only[cS]at hc)<;>(try exact aG))|refine aX ?_|refine az ?_|(refine bT ?_;intro g)|(refine bQ ?_;intro g)|(refine ai (aa iI rfl p1 iI) rfl ?_;intro vl)|(show WS _ _ _ (.region 1 _ true) _ _;refine nB 4 2 1 [1,2,4,5,6,0,3,7] [1006] (by decide+kernel) rfl rfl rfl rfl iI iI iI ?_)|(refine aD (aa iI rfl p2 ⟨aB.symm⟩) rfl rfl rfl ?_;intro r)|(refine' Ft rfl rfl rfl rfl ?zh ?_;(case zh=>exact fh rfl rfl iI iI iI iI iI rfl))|(refine aD (rm iI rfl rfl (q2 _) iI) rfl rfl rfl ?_;intro u5))
  exact aj (.inr rfl) rfl ⟨(),rfl,by rw[ad (eD _ _)];exact ah⟩
 ·rw[if_neg (by decide),if_neg (by decide),if_pos rfl]
  clear q1 q2 q4
  repeat' (first|refine ag (id:=2) (.range 15) ?_|refine ag (id:=4) (.range 7) ?_|(refine ab ?_;intro K hK)|(refine hK _ ?_;clear hK K)|refine ax ?_|(refine aF ?_ ?_<;>intro hc<;>(try simp only[cS]at hc)<;>(try exact aG))|refine aX ?_|refine az ?_|(refine bT ?_;intro g)|(refine bQ ?_;intro g)|(refine ai (aa iI rfl p1 iI) rfl ?_;intro vl)|(show WS _ _ _ (.region 1 _ true) _ _;refine nB 4 2 1 [1,2,4,5,6,0,3,7] [1006] (by decide+kernel) rfl rfl rfl rfl iI iI iI ?_)|(refine aD (aa iI rfl p2 ⟨aB.symm⟩) rfl rfl rfl ?_;intro r)|(refine' Ft rfl rfl rfl rfl ?zh ?_;(case zh=>exact fh rfl rfl iI iI iI iI iI rfl))|(refine aD (rm iI rfl rfl (q3 _) iI) rfl rfl rfl ?_;intro u5))
  exact aj (.inr rfl) rfl ⟨(),rfl,by rw[ad (eD _ _)];exact ah⟩
 ·rw[if_neg (by decide),if_neg (by decide),if_neg (by decide)]
  clear q1 q2 q3
  repeat' (first|refine ag (id:=2) (.range 15) ?_|refine ag (id:=4) (.range 7) ?_|(refine ab ?_;intro K hK)|(refine hK _ ?_;clear hK K)|refine ax ?_|(refine aF ?_ ?_<;>intro hc<;>(try simp only[cS]at hc)<;>(try exact aG))|refine aX ?_|refine az ?_|(refine bT ?_;intro g)|(refine bQ ?_;intro g)|(refine ai (aa iI rfl p1 iI) rfl ?_;intro vl)|(show WS _ _ _ (.region 1 _ true) _ _;refine nB 4 2 1 [1,2,4,5,6,0,3,7] [1006] (by decide+kernel) rfl rfl rfl rfl iI iI iI ?_)|(refine aD (aa iI rfl p2 ⟨aB.symm⟩) rfl rfl rfl ?_;intro r)|(refine' Ft rfl rfl rfl rfl ?zh ?_;(case zh=>exact fh rfl rfl iI iI iI iI iI rfl))|(refine aD (rm iI rfl rfl (q4 _) iI) rfl rfl rfl ?_;intro u5))
  exact aj (.inr rfl) rfl ⟨(),rfl,by rw[ad (eD _ _)];exact ah⟩
end
section
open Go.RowKit
def eQ (gm:Nat) (s:Nd):af:=hex fun gn:Nat=>aK gm 94 [ptr gn 0]*jg gn s
theorem jF {gm:Nat} {s:Nd} {H F:af} (gn:Nat) (e:aq H ((aK gm 94 [ptr gn 0]*jg gn s)*F)):aq H (eQ gm s*F):=aq.mX (p:=fun gn:Nat=>aK gm 94 [ptr gn 0]*jg gn s) gn e
theorem Spec.RM {P:Program} {w0:World} {f:FuncId} {args:List Value} {gm:Nat} {s:Nd} {X:af} {α:Type} {res:α→Value} {post:α→af} (h:∀gn,Spec P w0 f args ((aK gm 94 [ptr gn 0]*jg gn s)*X) res post):Spec P w0 f args (eQ gm s*X) res post:=fun G w hs=>by
 have iu:Sat w0 w (hex (fun gn:Nat=>aK gm 94 [ptr gn 0]*jg gn s)*(X*G)):=hs.cast (ad _ _ _)
 obtain⟨x,fP⟩:=iu.ex
 exact h x G w (fP.cast (ad _ _ _).symm)
theorem Spec.zD {P:Program} {w0:World} {f:FuncId} {args:List Value} {gm:Nat} {s:Nd} {α:Type} {res:α→Value} {post:α→af} (h:∀gn,Spec P w0 f args (aK gm 94 [ptr gn 0]*jg gn s) res post):Spec P w0 f args (eQ gm s) res post:=by
 have:=Spec.RM (X:=emp) (gm:=gm) (s:=s) (P:=P) (w0:=w0) (f:=f) (args:=args) (res:=res) (post:=post) (fun gn=>by rw[bl];exact h gn)
 rwa[bl]at this
attribute [local irreducible] WS LS cD eM cn cv Spec bA aK
variable (w0:World)
theorem HC (self:UInt32) (h0:self≠0) (b:List UInt8) (hb:b.length≤1000000) (now:UInt64) (v:Value) (X:af) [hX:eX w0 X v UInt8 1 bU b]:
 Spec Tryz.prog w0 11 [u32 self,v,u64 now] X (fun x:Nat×(Value×Value×Value)=> .tuple #[ptr x.1 0,fp (Nd.gZ self b now) x.2,.int .i64 0]) (fun x=>eQ x.1 (Nd.new self b now)*(ei (Nd.gZ self b now) x.2*X)):=by
 have p1:=HH w0 self b hb now v X
 refine Spec.enter Tryz.func11 rfl Tryz.ntmps11 rfl fun G=> ?_
 generalize Nd.new self b now=s at p1 ⊢
 generalize Nd.gZ self b now=o at p1 ⊢
 simp only[fp,ei]at p1 ⊢
 simp only[aN]
 repeat' (first|refine ae (id:=4) [0,1,3,2,4,5,6] 5 [2] ?_|refine cL (id:=4) 7 10 [0,1,3,2,4,5,6] 5 [] ?_|(refine ab ?_;intro K hK)|(refine hK _ ?_;clear hK K)|refine ax ?_|(refine aF ?_ ?_<;>intro hc<;>(try simp only[cS]at hc)<;>(try exact aG))|refine aX ?_|refine az ?_|(refine bT ?_;intro g)|(refine bQ ?_;intro g)|(refine ai (aa iI rfl p1 iI) rfl ?_;intro x))
 exact qm (.inl rfl) rfl (bh rfl) (aS rfl iI iI rfl) (bh rfl) ⟨(_,x.2),rfl,by rw[ad (eQ _ _)];exact jF x.1 (ah)⟩
theorem AT (gm:Nat) (s:Nd) (ok:aW s.ls):
 Spec Tryz.prog w0 15 [ptr gm 0] (eQ gm s) (fun x:Value×List da=>x.1) (fun x=>eQ gm s*(pure' (x.2.map (·.1)=cE s.ls)*(rows 53 7 bJ x.1 x.2*cQ x.2))):=by
 refine Spec.zD fun gn=> ?_
 have p1:=AY w0 gn s ok
 refine Spec.enter Tryz.func15 rfl Tryz.ntmps15 rfl fun G=> ?_
 simp only[aN]
 repeat' (first|(refine ab ?_;intro K hK)|(refine hK _ ?_;clear hK K)|refine ax ?_|refine az ?_|(refine ai (aa iI rfl p1 iI) rfl ?_;intro x))
 exact aC (.inl rfl) rfl rfl ⟨x,rfl,by rw[ad (eQ _ _)];exact jF gn (ah)⟩
theorem HD (gm:Nat) (s:Nd):
 Spec Tryz.prog w0 12 [ptr gm 0] (eQ gm s) (fun _:Unit=>u32 s.seq) (fun _=>eQ gm s):=by
 refine Spec.zD fun gn=> ?_
 have p1:=HL w0 gn s
 refine Spec.enter Tryz.func12 rfl Tryz.ntmps12 rfl fun G=> ?_
 simp only[aN]
 repeat' (first|(refine ab ?_;intro K hK)|(refine hK _ ?_;clear hK K)|refine ax ?_|refine az ?_|(refine ai (aa iI rfl p1 iI) rfl ?_;intro x))
 exact aC (.inl rfl) rfl rfl ⟨(),rfl,by exact jF gn (ah)⟩
end
section
open Go.RowKit
attribute [local irreducible] WS LS cD eM cn cv Spec bA aK
variable (w0:World)
theorem EL (gm:Nat) (s:Nd) (now:UInt64) {c:Nat} (hr:s.Rest c) (hc:c≤8500) (hn:now.toNat≤4611686018427387904):Spec Tryz.prog w0 83 [ptr gm 0,u64 now] (eQ gm s) (fun x:Value×Value×Value=>fp (s.iH now).out x) (fun x=>eQ gm (s.iH now)*ei (s.iH now).out x):=by
 refine Spec.zD fun gn=> ?_
 have p1:=EW w0 gn s now hr hc hn
 refine Spec.enter Tryz.func83 rfl Tryz.ntmps83 rfl fun G=> ?_
 generalize s.iH now=s2 at p1 ⊢
 simp only[fp,ei]at p1 ⊢
 simp only[aN]
 repeat' (first|(refine ab ?_;intro K hK)|(refine hK _ ?_;clear hK K)|refine ax ?_|refine az ?_|(refine bT ?_;intro g)|(refine bQ ?_;intro g)|(refine ai (aa iI rfl p1 iI) rfl ?_;intro x))
 exact gD (.inl rfl) rfl (aS rfl iI iI rfl) ⟨x,rfl,by rw[ad (eQ _ _)];exact jF gn (ah)⟩
theorem EK (gm:Nat) (s:Nd) (now:UInt64) (d:UInt32) (t:cP) {c:Nat} (hr:s.Rest c) (hc:c≤8500) (hn:now.toNat≤4611686018427387904) (he:s.gA d t=0):Spec Tryz.prog w0 81 [ptr gm 0,u64 now,u32 d,aZ t] (eQ gm s) (fun x:Value×Value×Value=> .tuple #[fp (s.iG now d t).out x,.int .i64 0]) (fun x=>eQ gm (s.iG now d t)*ei (s.iG now d t).out x):=by
 refine Spec.zD fun gn=> ?_
 have p1:=CU w0 gn s now d t hr hc hn he
 refine Spec.enter Tryz.func81 rfl Tryz.ntmps81 rfl fun G=> ?_
 generalize s.iG now d t=s2 at p1 ⊢
 simp only[fp,ei]at p1 ⊢
 simp only[aN]
 repeat' (first|(refine ab ?_;intro K hK)|(refine hK _ ?_;clear hK K)|refine ax ?_|refine az ?_|(refine bT ?_;intro g)|(refine bQ ?_;intro g)|(refine ai (aa iI rfl p1 iI) rfl ?_;intro x))
 exact dF (.inl rfl) rfl (aS rfl iI iI rfl) (bh rfl) ⟨x,rfl,by rw[ad (eQ _ _)];exact jF gn (ah)⟩
theorem AU (gm:Nat) (s:Nd) (now:UInt64) (d:UInt32) (t:cP) (he:s.gA d t≠0):Spec Tryz.prog w0 81 [ptr gm 0,u64 now,u32 d,aZ t] (eQ gm s) (fun _:Unit=> .tuple #[xQ,.int .i64 (s.gA d t)]) (fun _=>eQ gm s):=by
 refine Spec.zD fun gn=> ?_
 have p1:=AZ w0 gn s now d t he
 generalize s.gA d t=q at p1 ⊢
 refine Spec.enter Tryz.func81 rfl Tryz.ntmps81 rfl fun G=> ?_
 simp only[xQ]at p1 ⊢
 simp only[aN]
 repeat' (first|(refine ab ?_;intro K hK)|(refine hK _ ?_;clear hK K)|refine ax ?_|refine az ?_|(refine bT ?_;intro g)|(refine bQ ?_;intro g)|(refine ai (aa iI rfl p1 iI) rfl ?_;intro x))
 exact dF (.inl rfl) rfl (aS rfl iI iI rfl) (bh rfl) ⟨(),rfl,by exact jF gn (ah)⟩
theorem AP (gm:Nat) (s:Nd) (now:UInt64) (nb:UInt32) {c:Nat} (hr:s.Rest c):Spec Tryz.prog w0 79 [ptr gm 0,u64 now,u32 nb] (eQ gm s) (fun x:Value×Value×Value=>fp (s.l7 now nb).out x) (fun x=>eQ gm (s.l7 now nb)*ei (s.l7 now nb).out x):=by
 refine Spec.zD fun gn=> ?_
 have p1:=AV w0 gn s now nb hr
 refine Spec.enter Tryz.func79 rfl Tryz.ntmps79 rfl fun G=> ?_
 generalize s.l7 now nb=s2 at p1 ⊢
 simp only[fp,ei]at p1 ⊢
 simp only[aN]
 repeat' (first|(refine ab ?_;intro K hK)|(refine hK _ ?_;clear hK K)|refine ax ?_|refine az ?_|(refine bT ?_;intro g)|(refine bQ ?_;intro g)|(refine ai (aa iI rfl p1 iI) rfl ?_;intro x))
 exact gD (.inl rfl) rfl (aS rfl iI iI rfl) ⟨x,rfl,by rw[ad (eQ _ _)];exact jF gn (ah)⟩
end
section
open Go.RowKit
theorem Nd.Step.gQ (s:Nd) (now:UInt64) (src:UInt32) (f:cP):s.Step (s.gQ now src f) 2 0:=by
 unfold Nd.gQ
 split
 ·exact(Nd.Step.drop _ _).le (by omega) (by omega)
 ·rename_i p hp
  split
  ·exact(Nd.Step.drop _ _).le (by omega) (by omega)
  ·split
   ·have k:=(Nd.Step.tell s src p.dest (eJ s.ls p.dest)).trans (Nd.Step.zero (t:={s.tell src p.dest (eJ s.ls p.dest)with cd:=now+2000}) rfl rfl rfl rfl)
    exact(k.trans (Nd.Step.drop _ _)).le (by omega) (by omega)
   ·exact(Nd.Step.drop _ _).le (by omega) (by omega)
theorem Nd.Step.mb {s:Nd} (h:s.Inv) (now:UInt64) (src:UInt32) (f:cP):s.Step (s.mb now src f) 6 0:=by
 unfold Nd.mb
 split
 ·exact(Nd.Step.gQ _ _ _ _).le (by omega) (by omega)
 ·rename_i p hp
  have:=(gS h p.dest).1
  split
  ·exact(Nd.Step.gQ _ _ _ _).le (by omega) (by omega)
  ·exact(Nd.Step.handle _ _ _).le (by omega) (by omega)
theorem Nd.Inv.mb {s:Nd} (h:s.Inv) (now:UInt64) (src:UInt32) (f:cP):(s.mb now src f).Inv:=by
 unfold Nd.mb
 split
 ·exact h.gQ _ _ _
 ·rename_i p hp
  split
  ·exact h.gQ _ _ _
  ·exact h.handle _ _ (Pk.rN hp).aH
attribute [local irreducible] WS LS cD eM cn cv Spec bA aK
variable (w0:World)
theorem HK (gn:Nat) (s:Nd) (now:UInt64) (from_:UInt32) (f:cP) {c:Nat} (hr:s.Rest c) (hf:f.length≤100000) (v:Value) (X:af) [hX:eX w0 X v UInt8 1 bU f]:
 Spec Tryz.prog w0 34 [ptr gn 0,u64 now,u32 from_,v] (jg gn s*X) (fun x:Value×Value×Value=>fp (s.iX now from_ f).out x) (fun x=>jg gn (s.iX now from_ f)*(ei (s.iX now from_ f).out x*X)):=by
 have ok:=hr.inv.dp.dp
 have hb:=hr.inv.begin now
 have hs:=Nd.Step.mb hb now from_ f
 have h1:=Nd.fL s now ok
 have h2:=Nd.fK s now ok
 have h3:=hs.aI
 have h4:=hs.ay
 have h5:=hr.aI
 have p1:=fun bf br bn bw=>pB w0 gn s ((s.begin now).mb now from_ f) now (by omega) ok (by omega) (by omega) (hb.mb now from_ f).dp.dp 65 [ptr bf 0,ptr br 0,ptr bn 0,ptr bw 0] _ _ (HU w0 gn (s.begin now) now from_ f hb hf ((Nd.lz hr now).le (by omega)) (by rw[Nd.lk];simp) (by rw[Nd.mC];simp) bf br bn bw 25 26 90 24 v X)
 unfold Nd.iX
 generalize ((s.begin now).mb now from_ f).done=s2 at p1 ⊢
 simp only[fp,ei]at p1 ⊢
 refine Spec.enter Tryz.func34 rfl Tryz.ntmps34 rfl fun G=> ?_
 simp only[aN]
 repeat' (first|(refine ab ?_;intro K hK)|(refine hK _ ?_;clear hK K)|refine ax ?_|refine az ?_|(refine bT ?_;intro g)|(refine bQ ?_;intro g)|(refine ai (aa iI rfl (p1 _ _ _ _) iI) rfl ?_;intro x))
 exact gD (.inl rfl) rfl (aS rfl iI iI rfl) ⟨x.1,rfl,ah⟩
theorem zF (gm:Nat) (s:Nd) (now:UInt64) (from_:UInt32) (f:cP) {c:Nat} (hr:s.Rest c) (hf:f.length≤100000) (v:Value) (X:af) [hX:eX w0 X v UInt8 1 bU f]:
 Spec Tryz.prog w0 13 [ptr gm 0,u64 now,u32 from_,v] (eQ gm s*X) (fun x:Value×Value×Value=>fp (s.iX now from_ f).out x) (fun x=>eQ gm (s.iX now from_ f)*(ei (s.iX now from_ f).out x*X)):=by
 refine Spec.RM fun gn=> ?_
 have p1:=HK w0 gn s now from_ f hr hf v X
 refine Spec.enter Tryz.func13 rfl Tryz.ntmps13 rfl fun G=> ?_
 generalize s.iX now from_ f=s2 at p1 ⊢
 simp only[fp,ei]at p1 ⊢
 simp only[aN]
 repeat' (first|(refine ab ?_;intro K hK)|(refine hK _ ?_;clear hK K)|refine ax ?_|refine az ?_|(refine bT ?_;intro g)|(refine bQ ?_;intro g)|(refine ai (aa iI rfl p1 iI) rfl ?_;intro x))
 exact gD (.inl rfl) rfl (aS rfl iI iI rfl) ⟨x,rfl,by rw[ad (eQ _ _)];exact jF gn (ah)⟩
end
section
def Nd.bz (s t:Nd):Prop:=∃l:List (UInt32×Pk),t.out.aJ=s.out.aJ++l.map fun x=>(x.1,x.2.out)
theorem Nd.bz.of {s t:Nd} (h:t.out.aJ=s.out.aJ):s.bz t:=⟨[],by simp[h]⟩
theorem Nd.bz.trans {s t u:Nd} (h:s.bz t) (k:t.bz u):s.bz u:=by
 obtain⟨l,hl⟩:=h
 obtain⟨m,hm⟩:=k
 exact⟨l++m,by rw[hm,hl,List.map_append,List.append_assoc]⟩
theorem Nd.bz.send (s:Nd) (to:UInt32) (p:Pk):s.bz (s.send to p):=⟨[(to,p)],rfl⟩
theorem Nd.bz.same {s t:Nd} (h:s.fz t):s.bz t:=Nd.bz.of h.aJ
theorem Nd.bz.hand (s:Nd) (d:UInt32) (t:cP):s.bz (s.hand d t):=by
 unfold Nd.hand
 split
 ·exact Nd.bz.of rfl
 ·exact⟨[(_,_)],rfl⟩
theorem Nd.bz.bg (s:Nd) (d:UInt32) (l:List cP):s.bz (s.bg d l):=by
 induction l using eE with
 |nil=>exact Nd.bz.of rfl
 |snoc l t ih=>rw[Nd.dX];exact ih.trans (Nd.bz.hand _ _ _)
theorem Nd.bz.flush (s:Nd) (d:UInt32):s.bz (s.flush d):=by
 have h:=Nd.bz.bg s d (s.texts d)
 unfold Nd.flush
 simp only
 split
 ·exact h.trans (Nd.bz.of rfl)
 ·exact h.trans (Nd.bz.of rfl)
theorem Nd.bz.aT (s:Nd) (r:Rq):s.bz (s.aT r):=Nd.bz.of (by rw[(s.j2 r).2.2.2.1])
theorem Nd.bz.gE (s:Nd) (x:Sr):s.bz (s.gE x):=by
 have h0:s.bz {s with seq:=bS s.seq}:=Nd.bz.of rfl
 have h1:=h0.trans (Nd.bz.same (Nd.fz.note {s with seq:=bS s.seq}))
 unfold Nd.gE
 simp only
 generalize Nd.note {s with seq:=bS s.seq}=t at*
 refine(h1.trans ?_).trans (Nd.bz.aT _ _)
 exact⟨[(_,_)],rfl⟩
theorem Nd.bz.ask (s:Nd) (k:Nat) (x:Sr):s.bz (s.ask k x):=by
 unfold Nd.ask
 split
 ·exact Nd.bz.of rfl
 ·split
  ·exact Nd.bz.of rfl
  ·have h0:s.bz (s.cH k true):=Nd.bz.of rfl
   exact(h0.trans (Nd.bz.gE _ x)).trans (Nd.bz.of rfl)
theorem Nd.bz.again (s:Nd) (k:Nat) (x:Sr):s.bz (s.again k x):=by
 unfold Nd.again
 split
 ·exact Nd.bz.flush _ _
 ·split
  ·split
   ·rename_i y _
    have h0:s.bz {s with bu:=s.bu.set k y}:=Nd.bz.of rfl
    exact h0.trans (Nd.bz.ask _ k y)
   ·exact Nd.bz.of rfl
  ·exact Nd.bz.ask _ _ _
theorem Nd.bz.step {s t:Nd} {now:UInt64} (h:s.step now=some t):s.bz t:=by
 unfold Nd.step at h
 split at h
 ·cases h
 ·rename_i i _
  simp only at h
  have h0:s.bz {s with bI:=s.bI.eraseIdx i}:=Nd.bz.of rfl
  split at h
  ·split at h
   ·cases h;exact h0.trans (Nd.bz.again _ _ _)
   ·cases h;exact h0
  ·cases h;exact h0
theorem Nd.bz.gT (now:UInt64):∀(f:Nat) (s:Nd),s.bz (s.gT f now)
 |0,s=>Nd.bz.of rfl
 |f+1,s=>by
  unfold Nd.gT
  cases h:s.step now with
  |none=>exact Nd.bz.of rfl
  |some t=>exact(Nd.bz.step h).trans (Nd.bz.gT now f t)
theorem Nd.bz.answer (s:Nd) (p:Pk):s.bz (s.answer p):=by
 unfold Nd.answer
 split
 ·exact Nd.bz.send _ _ _
 ·exact Nd.bz.of rfl
theorem Nd.bz.gR (s:Nd) (p:Pk):s.bz (s.gR p):=by
 unfold Nd.gR
 split
 ·exact Nd.bz.of rfl
 ·split<;>exact Nd.bz.send _ _ _
theorem Nd.bz.jy (s:Nd) (p:Pk):s.bz (s.jy p):=by
 unfold Nd.jy
 split
 ·have h0:s.bz {s with seq:=if p.unknown then s.seq else max s.seq p.ak}:=Nd.bz.of rfl
  exact h0.trans (Nd.bz.answer _ _)
 ·split
  ·split
   ·rename_i x _ _
    have h0:s.bz {s with ls:=gF (match bR s.ls p.from_ s.now with|some b=>gF s.ls p.dest b.next|none=>s.ls) p.from_ x.next}:=Nd.bz.of rfl
    exact h0.trans (Nd.bz.answer _ _)
   ·exact Nd.bz.gR _ _
  ·exact Nd.bz.gR _ _
theorem Nd.bz.qd (s:Nd) (src:UInt32) (p:Pk):s.bz (s.qd src p):=by
 unfold Nd.qd
 split
 ·exact Nd.bz.of rfl
 ·simp only
  have h1:=Nd.bz.aT s ⟨p.from_,p.id⟩
  generalize s.aT ⟨p.from_,p.id⟩=s1 at*
  split
  ·exact h1.trans (Nd.bz.of rfl)
  ·refine h1.trans (Nd.bz.trans ?_ (Nd.bz.jy _ _))
   exact Nd.bz.of rfl
theorem Nd.bz.lost (s:Nd) (l:List (UInt32×UInt32)):s.bz (s.lost l):=by
 unfold Nd.lost
 split
 ·exact Nd.bz.send _ _ _
 ·exact Nd.bz.of rfl
theorem Nd.bz.xC (s:Nd) (src:UInt32) (p:Pk):s.bz (s.xC src p):=by
 have h0:s.bz {s with ls:=(bV src s.ls p.lost).1}:=Nd.bz.of rfl
 have h:=h0.trans (Nd.bz.lost _ (bV src s.ls p.lost).2.1)
 unfold Nd.xC
 simp only
 split
 ·exact h
 ·exact h.trans (Nd.bz.of rfl)
theorem Nd.bz.ov (s:Nd) (src:UInt32) (p:Pk):s.bz (s.ov src p):=by
 unfold Nd.ov
 repeat' split
 all_goals first|exact Nd.bz.of rfl|exact⟨[(_,_)],rfl⟩
theorem Nd.bz.brk (s:Nd) (nb:UInt32):s.bz (s.brk nb):=by
 have h0:s.bz {s with ls:=nH nb s.ls}:=Nd.bz.of rfl
 exact h0.trans (Nd.bz.lost _ _)
theorem Nd.bz.rep (s:Nd) (src:UInt32) (p:Pk):s.bz (s.rep src p):=by
 unfold Nd.rep
 split
 ·exact Nd.bz.of rfl
 ·simp only
  split
  ·exact Nd.bz.of rfl
  ·split
   ·have h2:∀l:List Ln,s.bz (if(bR l p.dest s.now).isSome then Nd.flush {s with ls:=l} p.dest else {s with ls:=l}):=fun l=>by
     have h0:s.bz {s with ls:=l}:=Nd.bz.of rfl
     split
     ·exact h0.trans (Nd.bz.flush _ _)
     ·exact h0
    split
    ·exact(h2 _).trans (Nd.bz.of rfl)
    ·exact h2 _
   ·split
    ·split<;>exact Nd.bz.of rfl
    ·split
     ·exact Nd.bz.of rfl
     ·exact⟨[(_,_)],rfl⟩
theorem Nd.bz.handle (s:Nd) (src:UInt32) (p:Pk):s.bz (s.handle src p):=by
 unfold Nd.handle
 repeat' split
 ·exact Nd.bz.qd _ _ _
 ·exact Nd.bz.rep _ _ _
 ·exact Nd.bz.xC _ _ _
 ·exact Nd.bz.ov _ _ _
theorem Nd.bz.gQ (s:Nd) (now:UInt64) (src:UInt32) (f:cP):s.bz (s.gQ now src f):=by
 unfold Nd.gQ
 repeat' split
 all_goals first|exact Nd.bz.of rfl|exact⟨[(_,_)],rfl⟩
theorem Nd.bz.mb (s:Nd) (now:UInt64) (src:UInt32) (f:cP):s.bz (s.mb now src f):=by
 unfold Nd.mb
 split
 ·exact Nd.bz.gQ _ _ _ _
 ·split
  ·exact Nd.bz.gQ _ _ _ _
  ·exact Nd.bz.handle _ _ _
theorem Nd.bz.ea (s:Nd) (d:UInt32) (t:cP):s.bz (s.ea d t):=by
 rw[Nd.o6]
 split
 ·exact Nd.bz.hand _ _ _
 ·have h1:s.bz ((s.roomFor d).put d t):=Nd.bz.of (s.kM d).2.2.2.2.2.2.2.2.2.2.2.1
  split
  ·exact h1
  ·have h2:((s.roomFor d).put d t).bz (((s.roomFor d).put d t).eC d):=Nd.bz.of rfl
   exact(h1.trans h2).trans (Nd.bz.ask _ _ _)
def dS.PQ (o:dS):Prop:=∃l:List (UInt32×Pk),o.aJ=l.map fun x=>(x.1,x.2.out)
theorem Nd.bz.R9 {s t:Nd} {now:UInt64} (h:(s.begin now).bz t):t.done.out.PQ:=by
 obtain⟨l,hl⟩:=h
 obtain⟨_,_,_,_,_,_,_,e8,_⟩:=t.tD
 exact⟨l,by rw[e8,hl,Nd.lk];rfl⟩
theorem Nd.Ir (s:Nd) (now:UInt64):(s.iH now).out.PQ:=Nd.bz.R9 (Nd.bz.gT now _ _)
theorem Nd.KQ (s:Nd) (now:UInt64) (src:UInt32) (f:cP):(s.iX now src f).out.PQ:=Nd.bz.R9 (Nd.bz.mb _ _ _ _)
theorem Nd.Jo (s:Nd) (now:UInt64) (nb:UInt32):(s.l7 now nb).out.PQ:=Nd.bz.R9 (Nd.bz.brk _ _)
theorem Nd.Ik (s:Nd) (now:UInt64) (d:UInt32) (t:cP):(s.iG now d t).out.PQ:=Nd.bz.R9 (Nd.bz.ea _ _ _)
def qg (J:cP) (n:Nd) (o:dS):Prop:=(if o.replace then []else J)++o.ay=b9 n.aI
theorem Bd (l m:List Rec):b9 (l++m)=b9 l++b9 m:=by simp[b9]
theorem Nd.qh {s t:Nd} {now:UInt64} {a b:Nat} (h:(s.begin now).Step t a b):qg (b9 s.aI) t.done t.done.out:=by
 have h0:=Nd.Step.note {s with now:=now,out:=dS.zero,ls:=mE now s.ls}
 have h1:=(h0.trans h).trans (Nd.Step.note t)
 have hr:=h1.MK
 obtain⟨W,_,w2,w3⟩:=h1.wr
 unfold qg Nd.done
 split
 ·simp
 ·rw[hr,w2,w3]
  simp only[dS.zero,Bool.false_eq_true,if_false,List.nil_append]
  rw[Bd]
end
section
theorem Jw {l:List Rec} (h:l≠[]):cC l≠[]:=by
 obtain⟨m,r,rfl⟩:∃m r,l=m++[r]:=⟨l.dropLast,l.getLast h,(List.dropLast_concat_getLast h).symm⟩
 intro e
 have h1:=lQ (m++[r]) r.norm.key
 rw[e,lY,if_pos rfl]at h1
 cases h1
theorem Nd.vO {s t:Nd} {now:UInt64} {a b:Nat} (h:(s.begin now).Step t a b) (hn:s.aI≠[]):t.done.aI≠[]:=by
 have h0:=Nd.Step.note {s with now:=now,out:=dS.zero,ls:=mE now s.ls}
 obtain⟨W,_,w2,_⟩:=((h0.trans h).trans (Nd.Step.note t)).wr
 have h1:t.note.aI≠[]:=by
  rw[w2]
  intro e
  exact hn (List.append_eq_nil_iff.1 e).1
 unfold Nd.done
 split
 ·exact Jw h1
 ·exact h1
theorem Nd.pC {s t:Nd} {now:UInt64} {a b:Nat} (h:(s.begin now).Step t a b):t.done.self=s.self:=by
 rw[t.tD.1,h.self,Nd.DR]
structure Nd.Jc (s t:Nd) (c:Nat):Prop where
 rest:t.Rest c
 self:t.self=s.self
 qh:qg (b9 s.aI) t t.out
 ne:s.aI≠[]→t.aI≠[]
 R9:t.out.PQ
theorem Nd.Rest.Dx {s:Nd} {c:Nat} (h:s.Rest c) (hc:c≤8500) {now:UInt64} (hn:now.toNat≤4611686018427387904):s.Jc (s.iH now) (c+1):=by
 obtain⟨i,_,hT⟩:=Nd.sO (h.ready hc hn)
 exact⟨h.tick hc hn,Nd.pC hT.step,Nd.qh hT.step,Nd.vO hT.step,Nd.Ir _ _⟩
theorem Nd.Rest.wa {s:Nd} {c:Nat} (h:s.Rest c) (now:UInt64) (src:UInt32) (f:cP):s.Jc (s.iX now src f) c:=by
 have hs:=Nd.Step.mb (h.inv.begin now) now src f
 exact⟨h.mb _ _ _,Nd.pC hs,Nd.qh hs,Nd.vO hs,Nd.KQ _ _ _ _⟩
theorem Nd.Rest.GA {s:Nd} {c:Nat} (h:s.Rest c) (now:UInt64) (nb:UInt32):s.Jc (s.l7 now nb) c:=by
 have hs:=Nd.Step.brk (s.begin now) nb
 exact⟨h.brk _ _,Nd.pC hs,Nd.qh hs,Nd.vO hs,Nd.Jo _ _ _⟩
theorem Nd.Rest.Dw {s:Nd} {c:Nat} (h:s.Rest c) {now:UInt64} (hn:now.toNat≤4611686018427387904) (d:UInt32) (t:cP) (ht:t.length≤16):s.Jc (s.iG now d t) (c+1):=by
 have hs:=Nd.Step.ea (s.begin now) d t
 exact⟨h.send hn d t ht,Nd.pC hs,Nd.qh hs,Nd.vO hs,Nd.Ik _ _ _ _⟩
theorem Nd.CM (self:UInt32) (b:cP) (now:UInt64):(Nd.new self b now).self=self:=by
 rw[(Nd.xM self b now).self]
 unfold Nd.bO
 split<;>rfl
theorem Nd.Kx (self:UInt32) (b:cP) (now:UInt64):(Nd.new self b now).aI≠[]:=by
 obtain⟨W,_,w2,_⟩:=(Nd.Step.note ((Nd.bO self b now).write ⟨true,0,(Nd.bO self b now).seq⟩)).wr
 show(Nd.note _).aI≠[]
 rw[w2]
 intro e
 have:=(List.append_eq_nil_iff.1 e).1
 simp[Nd.write]at this
theorem jj {n:Nd} {c:Nat} (h:n.Rest c):(b9 n.aI).length≤312:=by
 rw[nT]
 have:=h.aI
 omega
end
section
theorem xB:∀(l:List Rec) (r k:Rec),gh (l++[r]) k=match gh l k with
  |some q=>some q
  |none=>if r.key=k then some r.seq else none
 |[],r,k=>by simp[gh]
 |x::l,r,k=>by
  have ih:=xB l r k
  rw[List.cons_append]
  simp only[gh]
  split
  ·rfl
  ·exact ih
theorem og.init {l:List Rec} {r:Rec} (h:og (l++[r])):og l∧r.norm=r∧∀y∈l,y.key≠r.key:=by
 have hp:=List.pairwise_append.1 h.fH
 refine⟨⟨hp.1,fun y hy=>h.norm y (by simp[hy])⟩,h.norm r (by simp),fun y hy=> ?_⟩
 exact tP (h.norm y (by simp[hy])) (h.norm r (by simp)) (hp.2.2 y hy r (by simp))
theorem og.ot {l:List Rec} (h:og l) (k:Rec):Go.Proofs.YtapoehkdnglahabGreat.ot l k=gh l k:=by
 induction l using eE with
 |nil=>rfl
 |snoc l r ih=>
  obtain⟨h1,h2,h3⟩:=h.init
  rw[lY,xB,ih h1,h2]
  by_cases e:r.key=k
  ·have hn:gh l k=none:=xA fun y hy e2=>h3 y hy (e2.trans e.symm)
   rw[if_pos e,hn]
   simp only
   rw[if_pos e]
   rfl
  ·rw[if_neg e]
   cases gh l k with
   |none=>simp only;rw[if_neg e]
   |some q=>rfl
theorem og.comp {l:List Rec} (h:og l):cC l=l:=og.ext (jD l) h fun x=>by
 rw[lB (jD l),lB h,lQ,h.ot]
def gB (a q:UInt32):Rec:=⟨false,a,q⟩
theorem xu {l:List Rec} {a q:UInt32}:gH l a q=true↔∃h∈l,h.addr=a∧q≤h.seq:=by
 unfold gH
 rw[List.any_eq_true]
 constructor
 ·rintro⟨h,h1,h2⟩
  rw[Bool.and_eq_true]at h2
  exact⟨h,h1,of_decide_eq_true h2.1,of_decide_eq_true h2.2⟩
 ·rintro⟨h,h1,h2,h3⟩
  exact⟨h,h1,by rw[Bool.and_eq_true];exact⟨decide_eq_true h2,decide_eq_true h3⟩⟩
theorem oS {l:List Rec} (hi:og l) (ho:∀h∈l,h.own=false) {a q:UInt32}:gH l a q=true↔∃q',gh l (gB a 0)=some q'∧q≤q':=by
 rw[xu]
 constructor
 ·rintro⟨h,h1,rfl,h3⟩
  obtain⟨h4,h5⟩:=(lB hi).1 h1
  have hk:h.key=gB h.addr 0:=by
   unfold Rec.key
   rw[h4]
   have:=ho h h1
   obtain⟨o,a,s⟩:=h
   simp only at this
   subst this
   rfl
  rw[hk]at h5
  exact⟨h.seq,h5,h3⟩
 ·rintro⟨q',h1,h2⟩
  refine⟨gB a q',(lB hi).2 ⟨rfl,h1⟩,rfl,h2⟩
theorem Cw {x m q:UInt32}:x≤max m q↔x≤m∨x≤q:=by
 show x≤(if m≤q then q else m)↔_
 split
 ·rename_i h
  exact⟨.inr,fun k=>k.elim (fun k=>UInt32.le_trans k h) id⟩
 ·rename_i h
  have h2:q≤m:=UInt32.le_of_lt (UInt32.not_le.1 h)
  exact⟨.inl,fun k=>k.elim id fun k=>UInt32.le_trans k h2⟩
theorem JT {l:List Rec} (hi:og l) (ho:∀h∈l,h.own=false) (a q:UInt32):og (cC (l++[gB a q]))∧(∀h∈cC (l++[gB a q]),h.own=false∧((∃h'∈l,h'.addr=h.addr)∨h.addr=a))∧∀b x,gH (cC (l++[gB a q])) b x=true↔if b=a then gH l a x=true∨x≤q else gH l b x=true:=by
 have h1:=jD (l++[gB a q])
 have h2:∀h∈cC (l++[gB a q]),h.own=false∧((∃h'∈l,h'.addr=h.addr)∨h.addr=a):=fun h hh=>by
  obtain⟨k1,r,k2,k3,k4⟩:=tu hh
  rcases List.mem_append.1 k2 with k2|k2
  ·have:=ho r k2
   rw[this]at k3
   exact⟨k3.symm,.inl ⟨r,k2,k4 k3.symm⟩⟩
  ·simp at k2
   subst k2
   exact⟨k3.symm,.inr (k4 k3.symm).symm⟩
 refine⟨h1,h2,fun b x=> ?_⟩
 rw[oS h1 fun h hh=>(h2 h hh).1,lQ,lY,hi.ot]
 have hk:(gB a q).norm.key=gB a 0:=rfl
 rw[hk]
 by_cases e:b=a
 ·subst e
  rw[if_pos rfl,if_pos rfl,oS hi ho]
  have hs:(gB b q).seq=q:=rfl
  rw[hs]
  cases hl:gh l (gB b 0)with
  |none=>
   constructor
   ·rintro⟨q',k1,k2⟩
    cases k1
    exact .inr k2
   ·rintro(⟨q',k1,k2⟩|k)
    ·cases k1
    ·exact⟨q,rfl,k⟩
  |some m=>
   constructor
   ·rintro⟨q',k1,k2⟩
    cases k1
    rcases Cw.1 k2 with k|k
    ·exact .inl ⟨m,rfl,k⟩
    ·exact .inr k
   ·intro k
    refine⟨_,rfl,Cw.2 ?_⟩
    rcases k with ⟨q',k1,k2⟩|k
    ·cases k1;exact .inl k2
    ·exact .inr k
 ·rw[if_neg (fun e2=>e (congrArg Rec.addr e2).symm),if_neg e,oS hi ho]
theorem Twin.line {W:TW} {s:Nd} {d:RD} (h:Twin W s d) {l:Ln} (hl:l∈s.ls) (vr vh:Value):Twin W (s.write ⟨false,l.dest,l.seq⟩) {d with vr:=vr,vh:=vh,held:=cC (d.held++[gB l.dest l.seq])}∨gH d.held l.dest l.seq=true:=by
 by_cases ho:gH d.held l.dest l.seq=true
 ·exact .inr ho
 left
 obtain⟨k1,k2,k3⟩:=JT h.mY (fun x hx=>(h.kg x hx).1) l.dest l.seq
 refine⟨fun a q=> ?_,k1,fun x hx=> ?_,h.seen,h.o9,h.oz,h.o7,h.wait,h.mL,h.hP,h.search,h.jT,h.Br,h.fN,h.aP,h.oA,h.ns,h.nX,h.DB,h.Bp,h.FP,h.oy⟩
 ·have hm:(s.write ⟨false,l.dest,l.seq⟩).held=bY s.held l.dest l.seq:=rfl
  rw[hm,fo]
  show gH (cC (d.held++[gB l.dest l.seq])) a q=true↔_
  rw[k3]
  by_cases e:a=l.dest
  ·subst e
   rw[if_pos rfl,if_pos rfl]
   constructor
   ·rintro(k|k)
    ·refine⟨l.seq,rfl,fun bW=>ho ?_⟩
     obtain⟨q',a1,a2⟩:=(h.held _ _).1 k
     refine(h.held _ _).2 ⟨q',a1,fun h2=>a2 (UInt32.lt_trans h2 bW)⟩
    ·exact⟨l.seq,rfl,UInt32.not_lt.2 k⟩
   ·rintro⟨q',a1,a2⟩
    cases a1
    exact .inr (UInt32.not_lt.1 a2)
  ·rw[if_neg e,if_neg (Ne.symm e)]
   exact h.held a q
 ·obtain⟨a1,a2⟩:=k2 x hx
  refine⟨a1,?_⟩
  rcases a2 with ⟨y,b1,b2⟩|b
  ·obtain⟨_,l',c1,c2⟩:=h.kg y b1
   exact⟨l',c1,c2.trans b2⟩
  ·exact⟨l,hl,b.symm⟩
theorem Twin.cf {W:TW} {s:Nd} {d:RD} (h:Twin W s d) (l:Ln):s.cf l=if gH d.held l.dest l.seq=true then s else s.write ⟨false,l.dest,l.seq⟩:=by
 unfold Nd.cf
 have hh:=h.held l.dest l.seq
 cases hm:bX s.held l.dest with
 |none=>
  rw[if_neg (fun k=>by
   obtain⟨q',k1,_⟩:=hh.1 k
   rw[hm]at k1;cases k1)]
 |some q=>
  simp only
  by_cases hq:q<l.seq
  ·rw[if_pos hq,if_neg (fun k=>by
    obtain⟨q',k1,k2⟩:=hh.1 k
    rw[hm]at k1;cases k1;exact k2 hq)]
  ·rw[if_neg hq,if_pos (hh.2 ⟨q,hm,hq⟩)]
theorem Twin.own {W:TW} {s:Nd} {d:RD} (h:Twin W s d) (r:Rec) (hr:r.own=true) (vr:Value):Twin W (s.write r) {d with vr:=vr}:=by
 have hm:(s.write r).held=s.held:=by unfold Nd.write;rw[hr];rfl
 exact⟨fun a q=>by rw[hm];exact h.held a q,h.mY,h.kg,h.seen,h.o9,h.oz,h.o7,h.wait,h.mL,h.hP,h.search,h.jT,h.Br,h.fN,h.aP,h.oA,h.ns,h.nX,h.DB,h.Bp,h.FP,h.oy⟩
end
section
theorem D4 (ls:List Ln) (ds:List UInt32):((ds.filterMap (dG ls)).map (·.dest)).Sublist ds:=by
 induction ds with
 |nil=>exact List.Sublist.refl _
 |cons d ds ih=>
  rw[List.filterMap_cons]
  cases hg:dG ls d with
  |none=>exact ih.cons _
  |some l=>
   have hd:l.dest=d:=by
    unfold dG at hg
    cases hf:cN ls d with
    |none=>rw[hf]at hg;cases hg
    |some i=>
     obtain⟨l',h1,h2⟩:=dw hf
     rw[hf,Option.bind_some,h1]at hg
     cases hg
     exact h2
   simp only[List.map_cons,hd]
   exact ih.cons_cons d
theorem CB {ls:List Ln} (ok:aW ls):((cE ls).map (·.dest)).Pairwise fun a b=>a.toNat<b.toNat:=by
 have hn:(aQ (aO ls)).Nodup:=(List.mergeSort_perm _ _).nodup_iff.2 ok.nodup
 have hp:(aQ (aO ls)).Pairwise fun a b=>a.toNat≤b.toNat:=lX _
 have hs:(aQ (aO ls)).Pairwise fun a b=>a.toNat<b.toNat:=by
  have:=hp.and hn
  exact this.imp fun {a b} h=>Nat.lt_of_le_of_ne h.1 fun e=>h.2 (UInt32.toNat_inj.1 e)
 exact hs.sublist (D4 ls _)
def dM (l:List Ln):List Rec:=l.map fun x=>gB x.dest x.seq
theorem kJ (l:List Ln) (x:Ln):dM (l++[x])=dM l++[gB x.dest x.seq]:=by simp[dM]
theorem qi (l:List Ln):(dM l).length=l.length:=by simp[dM]
theorem EC {l:List Ln} (h:(l.map (·.dest)).Pairwise fun a b=>a.toNat<b.toNat):og (dM l):=by
 refine⟨?_,fun x hx=> ?_⟩
 ·unfold dM
  rw[List.pairwise_map]at h ⊢
  refine h.imp fun {a b} xe=> ?_
  simp only[gB,Rec.lt,bne_self_eq_false,Bool.false_eq_true,if_false]
  exact decide_eq_true (UInt32.lt_iff_toNat_lt.2 xe)
 ·unfold dM at hx
  obtain⟨y,_,rfl⟩:=List.mem_map.1 hx
  rfl
theorem Twin.Oj (n i0:Nat) (self q:UInt32) (ls:List Ln) (si:UInt64) (d:RD) (h1:d.seen=[]) (h2:d.wait=[]) (h3:d.search=[]) (h4:d.aP=[]) (h5:d.held=[]):Twin ⟨n,none,i0⟩ ({Nd.blank self with seq:=q,ls:=ls,cd:=si}.write ⟨true,0,q⟩) d:=by
 constructor
 ·intro a x
  rw[h5]
  constructor
  ·intro h;cases h
  ·rintro⟨y,hy,_⟩;cases hy
 ·rw[h5];exact og.nil
 ·rw[h5];intro x hx;cases hx
 ·rw[h1];rfl
 ·exact List.nodup_nil
 ·intro x _;rfl
 ·intro x hx;cases hx
 ·rw[h2];intro dst;rfl
 ·rw[h2];exact Nat.zero_le _
 ·rw[h3];rfl
 ·intro i x y hx;cases hx
 ·exact List.nodup_nil
 ·exact List.Pairwise.nil
 ·intro t ht;cases ht
 ·rw[h4];rfl
 ·rw[h4];exact List.Pairwise.nil
 ·rw[h4];intro t ht;cases ht
 ·rw[h4];rfl
 ·exact List.Pairwise.nil
 ·exact List.Pairwise.nil
 ·intro t ht;cases ht
 ·exact Nat.zero_le _
structure M6 (s t:Nd) (l:List Ln):Prop where
 aI:t.aI=s.aI++dM l
 Yt:t.out.ay=s.out.ay++b9 (dM l)
 same:t.ls=s.ls∧t.self=s.self∧t.seq=s.seq∧t.own=s.own∧t.cd=s.cd∧t.last=s.last∧t.ids=s.ids∧t.ff=s.ff∧t.now=s.now
 out:t.out.aJ=s.out.aJ∧t.out.cj=s.out.cj∧t.out.dropped=s.out.dropped
theorem E5 (l:List Rec) (r:Rec):b9 (l++[r])=b9 l++r.bytes:=by simp[b9]
theorem Twin.Pj {W:TW} {s:Nd} (L:List Ln) (hp:(L.map (·.dest)).Pairwise fun a b=>a.toNat<b.toNat) (hm:∀l∈L,l∈s.ls):∀(d:RD),Twin W s d→d.held=[]→Twin W (L.foldl Nd.cf s) {d with held:=dM L}∧M6 s (L.foldl Nd.cf s) L:=by
 intro d h hd
 induction L using eE with
 |nil=>
  refine⟨?_,?_⟩
  ·have:({d with held:=dM []}:RD)=d:=by rw[show dM []=d.held from hd.symm]
   rw[this];exact h
  ·exact⟨by simp[dM],by simp[dM,b9],⟨rfl,rfl,rfl,rfl,rfl,rfl,rfl,rfl,rfl⟩,⟨rfl,rfl,rfl⟩⟩
 |snoc L x ih=>
  have ma:=hp
  rw[List.map_append,List.pairwise_append]at ma
  obtain⟨i1,i2⟩:=ih ma.1 fun l hl=>hm l (by simp[hl])
  rw[List.foldl_append]
  simp only[List.foldl_cons,List.foldl_nil]
  generalize L.foldl Nd.cf s=t at*
  have Es:¬gH (dM L) x.dest x.seq=true:=by
   rw[xu]
   rintro⟨r,h1,h2,_⟩
   unfold dM at h1
   obtain⟨y,hy,rfl⟩:=List.mem_map.1 h1
   have h3:=ma.2.2 y.dest (List.mem_map_of_mem hy) x.dest (by simp)
   have h2:y.dest=x.dest:=h2
   rw[h2]at h3
   omega
  have hx:x∈t.ls:=by rw[i2.same.1];exact hm x (by simp)
  have e1:=i1.cf x
  rw[if_neg Es]at e1
  rw[e1]
  have hi:=EC hp
  rw[kJ]at hi
  have e2:=hi.comp
  refine⟨?_,?_⟩
  ·have h1:=(i1.line hx d.vr d.vh).resolve_right Es
   rw[kJ]
   simp only at h1
   rw[e2]at h1
   exact h1
  ·obtain⟨k1,k2,k3,k4⟩:=i2
   exact⟨by rw[kJ,←List.append_assoc,←k1];rfl,by rw[kJ,E5,←List.append_assoc,←k2];rfl,k3,k4⟩
theorem Nd.CN (n i0:Nat) (self:UInt32) (b:List UInt8) (now:UInt64) (d:RD) (h1:d.seen=[]) (h2:d.wait=[]) (h3:d.search=[]) (h4:d.aP=[]) (h5:d.held=[]):Twin ⟨n,none,i0⟩ (Nd.new self b now) {d with held:=dM (cE (Nd.bO self b now).ls)}∧M6 ((Nd.bO self b now).write ⟨true,0,(Nd.bO self b now).seq⟩) (Nd.new self b now) (cE (Nd.bO self b now).ls):=by
 obtain⟨q,ls,si,e⟩:∃q ls si,Nd.bO self b now={Nd.blank self with seq:=q,ls:=ls,cd:=si}:=by
  unfold Nd.bO
  split
  ·exact⟨_,_,_,rfl⟩
  ·exact⟨1,[],0,rfl⟩
 have ok:=Nd.px self b now
 unfold Nd.new
 rw[e]at ok ⊢
 have t0:=Twin.Oj n i0 self q ls si d h1 h2 h3 h4 h5
 have en:Nd.note ({Nd.blank self with seq:=q,ls:=ls,cd:=si}.write ⟨true,0,q⟩)=(cE ls).foldl Nd.cf ({Nd.blank self with seq:=q,ls:=ls,cd:=si}.write ⟨true,0,q⟩):=by
  unfold Nd.note Nd.dh
  rw[if_neg (by exact UInt32.lt_irrefl q)]
  rfl
 rw[en]
 exact Twin.Pj (cE ls) (CB ok) (fun l hl=>lO hl) d t0 h5
theorem Nd.sq (self:UInt32) (b:List UInt8) (now:UInt64):(Nd.new self b now).aI=⟨true,0,(Nd.bO self b now).seq⟩::dM (cE (Nd.bO self b now).ls)∧(Nd.new self b now).out.ay=b9 (Nd.new self b now).aI∧(Nd.new self b now).out.aJ=[]∧(Nd.new self b now).out.cj=[]∧(Nd.new self b now).out.dropped=[]∧(Nd.new self b now).own=(Nd.bO self b now).seq:=by
 obtain⟨_,k⟩:=Nd.CN 0 0 self b now ⟨0,.bool true,.bool true,.bool true,.bool true,.bool true,.bool true,.bool true,.bool true,.bool true,[],[],[],[],[]⟩ rfl rfl rfl rfl rfl
 have e:(Nd.bO self b now).aI=[]∧(Nd.bO self b now).out=dS.zero:=by
  unfold Nd.bO
  split<;>exact⟨rfl,rfl⟩
 obtain⟨k1,k2,k3,k4⟩:=k
 have r1:((Nd.bO self b now).write ⟨true,0,(Nd.bO self b now).seq⟩).aI=[⟨true,0,(Nd.bO self b now).seq⟩]:=by unfold Nd.write;rw[e.1];rfl
 have r2:((Nd.bO self b now).write ⟨true,0,(Nd.bO self b now).seq⟩).out.ay=b9 [⟨true,0,(Nd.bO self b now).seq⟩]:=by unfold Nd.write;rw[e.2];simp[dS.zero,b9]
 have r3:((Nd.bO self b now).write ⟨true,0,(Nd.bO self b now).seq⟩).out.aJ=[]∧((Nd.bO self b now).write ⟨true,0,(Nd.bO self b now).seq⟩).out.cj=[]∧((Nd.bO self b now).write ⟨true,0,(Nd.bO self b now).seq⟩).out.dropped=[]:=by unfold Nd.write;rw[e.2];exact⟨rfl,rfl,rfl⟩
 rw[r1]at k1
 rw[r2]at k2
 refine⟨k1,?_,k4.1.trans r3.1,k4.2.1.trans r3.2.1,k4.2.2.trans r3.2.2,k3.2.2.2.1⟩
 rw[k1,k2]
 simp[b9]
end
section
open Go.RowKit
variable {P:Program} {n:fT} {w0:World} {E:Env} {D:List Deferred} {H F R L:af} {ops:Array Oper} {Q:Exit→St→Prop} {post:List Nat} {f:Nat} {ao:Array Bool} {c:Bool}
def DT (P:Program) (n:fT) (w0:World) (ops:Array Oper) (Q:Exit→St→Prop) (D:List Deferred) (R L:af) (post:List Nat) (f:Nat) (ao:Array Bool) (c:Bool) (E:Env) (F:af):Prop:=
 ∀a w,fV n E a→a.defers=D→Sat w0 w (hp c R L F)→Down ops ao→j5 w0 ops R L post ao w→kS P ops (j1 (lift n w0 Q)) (j5 w0 ops R L post) f ao a w
def DO (P:Program) (n:fT) (w0:World) (ops:Array Oper) (Q:Exit→St→Prop) (D:List Deferred) (R L:af) (post:List Nat) (f:Nat) (ao:Array Bool) (c:Bool) (E:Env) (F:af) (i:Nat):Prop:=
 ∀a w,fV n E a→a.defers=D→Sat w0 w (hp c R L F)→Down ops ao→j5 w0 ops R L post ao w→i∈Region.ready .any ops ao→wpOp P ops (j1 (lift n w0 Q)) i (fun a' w'=>j5 w0 ops R L post (ao.setIfInBounds i true) w'∧kS P ops (j1 (lift n w0 Q)) (j5 w0 ops R L post) f (ao.setIfInBounds i true) a' w') a w
def N2 (P:Program) (n:fT) (w0:World) (ops:Array Oper) (Q:Exit→St→Prop) (D:List Deferred) (R L:af) (post:List Nat) (f:Nat) (ao:Array Bool) (c:Bool) (E:Env) (F:af):List Nat→Prop
 |[]=>True
 |i::r=>DO P n w0 ops Q D R L post f ao c E F i∧N2 P n w0 ops Q D R L post f ao c E F r
theorem BO:∀{r:List Nat},N2 P n w0 ops Q D R L post f ao c E F r→∀i∈r,DO P n w0 ops Q D R L post f ao c E F i
 |[],_,i,hi=>by cases hi
 |j::r,h,i,hi=>by
  rcases List.mem_cons.1 hi with rfl|hi
  ·exact h.1
  ·exact BO h.2 i hi
theorem ed (r:List Nat) (h:N2 P n w0 ops Q D R L post f ao c E F r) (hr:Region.ready .any ops ao=r:=by decide+kernel) (mi:r.isEmpty=false:=by decide+kernel):DT P n w0 ops Q D R L post (f+1) ao c E F:=fun a w hs hD je hd hS=>by
 refine⟨fun h0=> ?_,fun i hi=> ?_⟩
 ·rw[hr]at h0;subst h0;cases mi
 ·exact BO h i (by rw[←hr];exact hi) a w hs hD je hd hS hi
theorem kx {i:Nat} (h:DO P n w0 ops Q D R L post f ao true E (L*F) i):DO P n w0 ops Q D R L post f ao false E F i:=fun a w hs hD je hd hS hr=>h a w hs hD je hd hS hr
theorem IJ (hr:(Region.ready .any ops ao).isEmpty=true) (hH:H=hp c R L F) (h:Q .normal ⟨E,D,H⟩):DT P n w0 ops Q D R L post f ao c E F:=fun a w hs hD je hd hS=>
 uR (by simpa using hr) ⟨_,h,hs,hD,je.cast hH.symm⟩ f
theorem oE (h:Q .normal ⟨E,D,R*F⟩) (hr:(Region.ready .any ops ao).isEmpty=true:=by decide+kernel):DT P n w0 ops Q D R L post f ao true E F:=IJ hr rfl h
theorem Fu {i:Nat} {o:Oper} {v:Value} (hi:ops[i]? =some o) (rY:Region.noSelect ops=true) (OF:post.contains i=false) (rV:Region.free .any ops ao i=true) (hr:(Region.ready .any ops ao).contains i=true) (T:World→Prop) (hT:∀ao w,Down ops ao→ao.getD i true=false→j5 w0 ops R L post ao w→T w) (gG:gC n o.dst=true)
 (hy:∀a,fV n E a→YieldsIf P ops T o v a) (h:DT P n w0 ops Q D R L post f (ao.setIfInBounds i true) c (E.hJ o.dst v) F):DT P n w0 ops Q D R L post (f+1) ao c E F:=fun a w hs hD je hd hS=>by
 have Hn:i∈Region.ready .any ops ao:=by simpa using hr
 have Ud:i∉post:=fun hm=>by
  have:post.contains i=true:=by simpa using hm
  rw[OF]at this;cases this
 refine sU hi rY (fun _ _ _ h=>h) T hT (fun ao w h=>h.set i) (fun ao j w QY Q7 pZ hj h=>by
  obtain⟨F',h⟩:=h
  refine⟨F',?_⟩
  rw[Array.setIfInBounds_comm _ _ (Ne.symm pZ),FG Ud]at h
  exact h) f ao a w hd (fun j oj OS pZ Qb zt=>Region.free_spec hi rV j oj OS pZ Qb zt) Hn (hy a hs) hS ?_
 exact h _ w (hs.hJ _ _ gG) (by cases o.dst<;>exact hD) je (hd.set Hn) (hS.set i)
section
variable {i d:Nat} {op:Op} {ty:TypeId} {pos:String} {after:Array Edge} {v:Value}
theorem ec (i:Nat) (hi:ops[i]? =some ⟨some d,op,ty,pos,after,none⟩) (iZ:∀F',cD P n w0 ⟨some d,op,ty,pos,after,none⟩ E (R*F') v)
 (h:DT P n w0 ops Q D R L post f (ao.setIfInBounds i true) c ((d,v)::E) F) (rY:Region.noSelect ops=true:=by decide+kernel) (OF:post.contains i=false:=by decide+kernel) (rV:Region.free .any ops ao i=true:=by decide+kernel) (hr:(Region.ready .any ops ao).contains i=true:=by decide+kernel) (hd:Nat.blt d n.tmps=true:=by decide+kernel):DT P n w0 ops Q D R L post (f+1) ao c E F:=
 Fu hi rY OF rV hr (fun w=>∃F',Sat w0 w (R*F')) (fun _ _ _ _ h=>h.read) (by simpa [gC,Nat.blt_eq]using hd) (fun a hs=> .inl ⟨rfl,fun w hw=>by obtain⟨F',hw⟩:=hw;exact iZ F' a w hs hw⟩) h
theorem yQ (i:Nat) (hi:ops[i]? =some ⟨some d,op,ty,pos,after,none⟩) (iZ:∀F',cD P n w0 ⟨some d,op,ty,pos,after,none⟩ E (R*(L*F')) v)
 (h:DT P n w0 ops Q D R L post f (ao.setIfInBounds i true) c ((d,v)::E) F) (rY:Region.noSelect ops=true:=by decide+kernel) (OF:post.contains i=false:=by decide+kernel) (rV:Region.free .any ops ao i=true:=by decide+kernel) (hr:(Region.ready .any ops ao).contains i=true:=by decide+kernel) (hd:Nat.blt d n.tmps=true:=by decide+kernel) (X6:(post.all fun j=>(BX ops i ops.size).contains j)=true:=by decide+kernel):DT P n w0 ops Q D R L post (f+1) ao c E F:=
 Fu hi rY OF rV hr (fun w=>∃F',Sat w0 w (R*(L*F'))) (fun ao w QY Q7 h=>by
  obtain⟨F',h⟩:=h
  have:post.any (fun j=>ao.getD j false)=false:=by
   rw[←Bool.not_eq_true,List.any_eq_true]
   rintro⟨j,hj,hl⟩
   have Ug:=List.all_eq_true.1 X6 j hj
   rw[rO QY Q7 j (by simpa using Ug)]at hl
   cases hl
  rw[this]at h
  exact⟨F',h⟩) (by simpa [gC,Nat.blt_eq]using hd) (fun a hs=> .inl ⟨rfl,fun w hw=>by obtain⟨F',hw⟩:=hw;exact iZ F' a w hs hw⟩) h
theorem z1 {o:Oper} {α:Type} {v:α→Value} {vm:α→af} {G:af} (hi:ops[i]? =some o) (hg:o.guard=none) (iZ:cn P n w0 o E G v vm) (hG:G=hp c R L F) (gG:gC n o.dst=true) (hc:(!c||post.contains i||post.any fun j=>ao.getD j false)=true)
 (F2:α→af) (Xl:∀x,vm x=hp c R L (F2 x)) (h:∀x,DT P n w0 ops Q D R L post f (ao.setIfInBounds i true) c (E.hJ o.dst (v x)) (F2 x)):DO P n w0 ops Q D R L post f ao c E F i:=fun a w hs hD je hd hS hr=>by
 have Cf:∀x w',Sat w0 w' (hp c R L (F2 x))→j5 w0 ops R L post (ao.setIfInBounds i true) w':=fun x w' eI=>by
  cases vR:c with
  |false=>rw[vR]at eI;exact .whole eI
  |true=>
   rw[vR]at eI hc
   refine .Py ?_ eI
   have bW:i<ao.size:=by
    have:=(mem_ready.1 hr).1
    rcases Nat.lt_or_ge i ao.size with h|h
    ·exact h
    ·simp[Array.getElem?_eq_none h]at this
   simp only[Bool.not_true,Bool.false_or,Bool.or_eq_true]at hc
   rcases hc with hc|hc
   ·exact List.any_eq_true.2 ⟨i,by simpa using hc,by simp[bW]⟩
   ·obtain⟨j,hj,hl⟩:=List.any_eq_true.1 hc
    exact List.any_eq_true.2 ⟨j,hj,getD_set_true hl⟩
 unfold wpOp
 rw[hi]
 simp only
 rw[if_pos (by unfold Region.wanted;rw[hg])]
 refine .inl ?_
 obtain⟨pre,A8,G',hT,hH,qZ⟩:=iZ
 refine hT G' a w _ _ hs (je.cast (hG.symm.trans hH)) fun x w' eI=> ?_
 have fP:=eI.cast ((qZ x).symm.trans (Xl x))
 exact⟨Cf x w' fP,h x _ w' (hs.hJ _ _ gG) (by cases o.dst<;>exact hD) fP (hd.set hr) (Cf x w' fP)⟩
theorem wb (i:Nat) {α:Type} {v:α→Value} {vm:α→af} (hi:ops[i]? =some ⟨some d,op,ty,pos,after,none⟩) (iZ:cn P n w0 ⟨some d,op,ty,pos,after,none⟩ E F v vm)
 (h:∀x,DT P n w0 ops Q D R L post f (ao.setIfInBounds i true) false ((d,v x)::E) (vm x)) (hd:Nat.blt d n.tmps=true:=by decide+kernel):DO P n w0 ops Q D R L post f ao false E F i:=by
 have Et:cn P n w0 ⟨some d,op,ty,pos,after,none⟩ E (hp false R L F) v (fun x=>hp false R L (vm x)):=by
  obtain⟨pre,A8,G',hT,hH,qZ⟩:=iZ
  refine⟨pre,A8,R*(L*G'),hT,?_,fun x=> ?_⟩
  ·simp only[hp,cond_false];rw[hH];ac_rfl
  ·simp only[hp,cond_false];rw[qZ];ac_rfl
 exact z1 hi rfl Et rfl (by simpa [gC,Nat.blt_eq]using hd) rfl vm (fun _=>rfl) h
theorem oD (i:Nat) {α:Type} {v:α→Value} {vm:α→af} (hi:ops[i]? =some ⟨some d,op,ty,pos,after,none⟩) (iZ:cn P n w0 ⟨some d,op,ty,pos,after,none⟩ E F v vm)
 (h:∀x,DT P n w0 ops Q D R L post f (ao.setIfInBounds i true) true ((d,v x)::E) (vm x)) (hd:Nat.blt d n.tmps=true:=by decide+kernel) (hc:(post.contains i||post.any fun j=>ao.getD j false)=true:=by decide+kernel):DO P n w0 ops Q D R L post f ao true E F i:=by
 have Et:cn P n w0 ⟨some d,op,ty,pos,after,none⟩ E (hp true R L F) v (fun x=>hp true R L (vm x)):=by
  obtain⟨pre,A8,G',hT,hH,qZ⟩:=iZ
  refine⟨pre,A8,R*G',hT,?_,fun x=> ?_⟩
  ·simp only[hp,cond_true];rw[hH];ac_rfl
  ·simp only[hp,cond_true];rw[qZ];ac_rfl
 exact z1 hi rfl Et rfl (by simpa [gC,Nat.blt_eq]using hd) hc vm (fun _=>rfl) h
theorem uo (i:Nat) {α:Type} {v:α→Value} {vm:α→af} (hi:ops[i]? =some ⟨none,op,ty,pos,after,none⟩) (iZ:cn P n w0 ⟨none,op,ty,pos,after,none⟩ E F v vm)
 (h:∀x,DT P n w0 ops Q D R L post f (ao.setIfInBounds i true) true E (vm x)) (hc:(post.contains i||post.any fun j=>ao.getD j false)=true:=by decide+kernel):DO P n w0 ops Q D R L post f ao true E F i:=by
 have Et:cn P n w0 ⟨none,op,ty,pos,after,none⟩ E (hp true R L F) v (fun x=>hp true R L (vm x)):=by
  obtain⟨pre,A8,G',hT,hH,qZ⟩:=iZ
  refine⟨pre,A8,R*G',hT,?_,fun x=> ?_⟩
  ·simp only[hp,cond_true];rw[hH];ac_rfl
  ·simp only[hp,cond_true];rw[qZ];ac_rfl
 exact z1 hi rfl Et rfl rfl hc vm (fun _=>rfl) h
end
theorem rA {id:Nat} {l:List Oper} (R L:af) (post:List Nat) (hH:H=R*L) (h:DT P n w0 l.toArray Q D R L post l.length (Array.replicate l.length false) false E emp) (xm:(l.all fun o=> !F8 o.op)=true:=by decide+kernel) (hm:P.follows .mixedOrders=true:=by decide+kernel):WS P n w0 (.region id l.toArray true) Q ⟨E,D,H⟩:=fun a w g=>by
 have hd:Sat w0 w.drew (R*(L*emp)):=(g.sat.cast (by rw[hH,bl])).drew
 have h1:=h a w.drew g.dQ g.defers hd (wX _) (.whole hd)
 have h2:=qW _ _ _ _ h1
 have OQ:∀(j:Nat) (o:Oper),l.toArray[j]? =some o→∀c,o.op≠Op.defer c:=fun j o hj c hc=>by
  have:=List.all_eq_true.1 xm o (List.mem_of_getElem? (by simpa using hj))
  rw[hc]at this;cases this
 have mZ:¬LetsOut (j1 (lift n w0 Q)):=fun⟨_,_,h⟩=>h
 have h3:=wpIn_region_any (id:=id) (F:=uW n.round) (n:=0) hm (by rw[List.size_toArray];exact qV OQ mZ _ _ _ _ h2)
 exact Code.wpIn_mono (fun e a w h=>by cases e<;>first|exact h|exact(h:False).elim) h3
theorem nC {x y:Code} {σ:St} {K:St→Prop} (hK:∀τ,WS P n w0 y Q τ→K τ) (I:St→Prop) (h:WS P n w0 x (thenS (fun σ'=>∃τ',I τ'∧τ'.E.sub σ'.E∧τ'.D=σ'.D∧aq σ'.H τ'.H) Q) σ) (hm:∀τ,I τ→WS P n w0 y Q τ):WS P n w0 x (thenS K Q) σ:=h.mono fun e σ' h=>by
 cases e with
 |normal=>
  obtain⟨τ',hI,e1,e2,e3⟩:=h
  exact hK _ fun a w g=>hm τ' hI a w (g.low e1 e2 e3)
 |_=>exact h
end
section
open Go.RowKit
def Nd.Qe (s:Nd) (r:Rec):Nd:={s with aI:=s.aI++[r],out:={s.out with ay:=s.out.ay++r.bytes}}
attribute [local irreducible] WS LS cD eM cn cv Spec bA aK di cq
variable (w0:World)
theorem sF (gn:Nat) (s:Nd) (d:RD) (r:Rec) (hr:s.aI.length≤500000) (hj:s.out.ay.length≤900000):Spec Tryz.prog w0 200 [ptr gn 0,.agg r.cells.toArray] (aK gn 195 (bN s d s.out)*rows 28 3 Rec.cells d.vr s.aI) (fun _:Value=> .tuple #[]) (fun vr=>aK gn 195 (bN (s.Qe r) {d with vr:=vr} (s.Qe r).out)*rows 28 3 Rec.cells vr (s.Qe r).aI):=by
 have p1:=mz w0 r
 have yl:=Rec.dz r
 refine Spec.enter Tryz.func200 rfl Tryz.ntmps200 rfl fun G=> ?_
 obtain⟨o,a,q⟩:=r
 simp only[aN,bN,Nd.Qe,ad,Rec.cells]at*
 repeat' (first|(refine ab ?_;intro K hK)|(refine hK _ ?_;clear hK K)|refine ax ?_|(refine bT ?_;intro g))
 refine nC hK (fun τ=>∃va,τ=⟨[(3,ptr g 0),(0,ptr gn 0)],[],aK g 28 [.bool o,u32 a,u32 q]*(aK gn 195 [u32 s.self,u32 s.seq,ptr d.tb 0,va,u64 s.cd,d.vs,d.vw,d.vq,.int .i64 s.last,u32 s.ids,u32 s.ff,d.vt,u64 s.now,aZ s.out.ay,.bool s.out.replace,d.vf,d.vc,d.vd,d.vh,u32 s.own]*(rows 28 3 Rec.cells va (s.aI++[⟨o,a,q⟩])*G))⟩) ?_ ?_
 ·refine rA (aK g 28 [.bool o,u32 a,u32 q]) _ [6,9,12] rfl ?_
  refine ec 0 rfl (fun F'=>by exact bC rfl) ?_
  refine ec 2 rfl (fun F'=>by exact bC rfl) ?_
  refine ec 3 rfl (fun F'=>by exact db rfl) ?_
  refine ec 4 rfl (fun F'=>by first|exact bq rfl iI rfl|exact eG rfl iI iI rfl (by first|assumption|omega)) ?_
  refine yQ 5 rfl (fun F'=>by first|exact cm rfl iI iI rfl|exact kZ rfl iI iI rfl|exact lg rfl iI iI iI (by assumption) rfl|exact ja rfl iI iI iI (by assumption)) ?_
  refine ec 7 rfl (fun F'=>by first|exact cm rfl iI iI rfl|exact kZ rfl iI iI rfl|exact lg rfl iI iI iI (by assumption) rfl|exact ja rfl iI iI iI (by assumption)) ?_
  refine ed [1,8] ⟨?_,?_,trivial⟩
  ·refine wb 1 rfl (fq Rec.cells iI iI) fun x1=> ?_
   refine ed [6,8] ⟨?_,?_,trivial⟩
   ·refine kx ?_;refine oD 6 rfl (dH (rows 28 3 Rec.cells d.vr s.aI) rfl rfl iI iI iI rfl iI iI cO (by first|omega|(simp;omega)) rfl) fun x6=> ?_
    refine ed [8] ⟨?_,trivial⟩
    refine oD 8 rfl (au Rec.cells [⟨o,a,q⟩] iI iI iI rfl rfl rfl rfl rfl iI rfl rfl rfl) fun x8=> ?_
    refine ed [9] ⟨?_,trivial⟩
    refine oD 9 rfl (cn.form _ rfl (aR rfl rfl iI iI rfl iI iI cO (by first|omega|(simp;omega)) rfl)) fun x9=> ?_
    refine ec 10 rfl (fun F'=>by exact db rfl) ?_
    refine ec 11 rfl (fun F'=>by first|exact bq rfl iI rfl|exact eG rfl iI iI rfl (by first|assumption|omega)) ?_
    refine ed [12] ⟨?_,trivial⟩
    refine uo 12 rfl (kV rfl rfl iI rfl iI rfl) fun WL=> ?_
    refine oE ?_
    exact⟨_,⟨.slice x9.1 (s.aI++[(⟨o,a,q⟩:Rec)]).length x9.2,rfl⟩,cG,rfl,by simp only[List.nil_append];exact ah⟩
   ·refine wb 8 rfl (au Rec.cells [⟨o,a,q⟩] iI iI iI rfl rfl rfl rfl rfl iI rfl rfl rfl) fun x8=> ?_
    refine ed [6] ⟨?_,trivial⟩
    refine kx ?_;refine oD 6 rfl (dH (rows 28 3 Rec.cells d.vr s.aI) rfl rfl iI iI iI rfl iI iI cO (by first|omega|(simp;omega)) rfl) fun x6=> ?_
    refine ed [9] ⟨?_,trivial⟩
    refine oD 9 rfl (cn.form _ rfl (aR rfl rfl iI iI rfl iI iI cO (by first|omega|(simp;omega)) rfl)) fun x9=> ?_
    refine ec 10 rfl (fun F'=>by exact db rfl) ?_
    refine ec 11 rfl (fun F'=>by first|exact bq rfl iI rfl|exact eG rfl iI iI rfl (by first|assumption|omega)) ?_
    refine ed [12] ⟨?_,trivial⟩
    refine uo 12 rfl (kV rfl rfl iI rfl iI rfl) fun WL=> ?_
    refine oE ?_
    exact⟨_,⟨.slice x9.1 (s.aI++[(⟨o,a,q⟩:Rec)]).length x9.2,rfl⟩,cG,rfl,by simp only[List.nil_append];exact ah⟩
  ·refine wb 8 rfl (au Rec.cells [⟨o,a,q⟩] iI iI iI rfl rfl rfl rfl rfl iI rfl rfl rfl) fun x8=> ?_
   refine ed [1] ⟨?_,trivial⟩
   refine wb 1 rfl (fq Rec.cells iI iI) fun x1=> ?_
   refine ed [6] ⟨?_,trivial⟩
   refine kx ?_;refine oD 6 rfl (dH (rows 28 3 Rec.cells d.vr s.aI) rfl rfl iI iI iI rfl iI iI cO (by first|omega|(simp;omega)) rfl) fun x6=> ?_
   refine ed [9] ⟨?_,trivial⟩
   refine oD 9 rfl (cn.form _ rfl (aR rfl rfl iI iI rfl iI iI cO (by first|omega|(simp;omega)) rfl)) fun x9=> ?_
   refine ec 10 rfl (fun F'=>by exact db rfl) ?_
   refine ec 11 rfl (fun F'=>by first|exact bq rfl iI rfl|exact eG rfl iI iI rfl (by first|assumption|omega)) ?_
   refine ed [12] ⟨?_,trivial⟩
   refine uo 12 rfl (kV rfl rfl iI rfl iI rfl) fun WL=> ?_
   refine oE ?_
   exact⟨_,⟨.slice x9.1 (s.aI++[(⟨o,a,q⟩:Rec)]).length x9.2,rfl⟩,cG,rfl,by simp only[List.nil_append];exact ah⟩
 ·clear hK K
  rintro τ ⟨va,rfl⟩
  repeat' (first|refine ae (id:=2) (.range 13) 12 [5,6] ?_|refine cL (id:=2) 0 3 (.range 13) 12 [5] ?_|refine ax ?_|refine az ?_|((first|refine' bP rfl rfl rfl ?zh ?_|refine' bk rfl rfl ?zh ?_);case zh=>intro F';exact kP rfl rfl (by first|omega|(simp[al]<;>omega)))|(refine bQ ?_;intro g)|(refine aD (aa iI rfl p1 ⟨aB.symm⟩) rfl rfl rfl ?_;intro u1))
  exact aj (.inr rfl) rfl ⟨va,rfl,ah⟩
end
section
open Go.RowKit
attribute [local irreducible] WS LS cD eM cn cv Spec bA aK di cq
variable (w0:World)
theorem cx (gn:Nat) (s:Nd) (d:RD) (k:Int) (hd:s.out.dropped.length≤900000):Spec Tryz.prog w0 129 [ptr gn 0,.int .i64 k] (cR gn s d) (fun _:Value=> .tuple #[]) (fun vd=>cR gn (s.drop k) {d with vd:=vd}):=by
 refine Spec.enter Tryz.func129 rfl Tryz.ntmps129 rfl fun G=> ?_
 unfold cR bc cy
 simp only[aN,bN,Nd.drop,ad]
 repeat' (first|refine ax ?_|refine az ?_|(refine bQ ?_;intro g)|(refine ai (au lr [k] iI iI iI rfl rfl rfl rfl rfl iI rfl rfl rfl) rfl ?_;intro vx)|(refine ai (aR rfl rfl iI iI rfl iI iI Co (by first|omega|(simp[al]<;>omega)) rfl) rfl ?_;intro va))
 exact aj (.inr rfl) rfl ⟨va,rfl,ah⟩
theorem fS (gn:Nat) (s:Nd) (d:RD) (to:UInt32) (p:Pk) (hp:p.Ok) (v:Value) (hv:v.oneCell'=true) (X:af) [hX:eX w0 X v (UInt32×UInt32) 2 bB p.lost] (hd:s.out.aJ.length≤900000):Spec Tryz.prog w0 131 [ptr gn 0,u32 to,p.val v] (cR gn s d*X) (fun _:Value=> .tuple #[]) (fun vf=>cR gn (s.send to p) {d with vf:=vf}*X):=by
 have dY:=gJ w0 p hp v hv X
 have Ri:=p.Gf
 refine Spec.enter Tryz.func131 rfl Tryz.ntmps131 rfl fun G=> ?_
 unfold cR bc cy
 simp only[aN,bN,Nd.send,Pk.val,Pk.cells,Pk.ret,ad]at dY ⊢
 repeat' (first|(refine ab ?_;intro K hK)|(refine hK _ ?_;clear hK K)|refine ax ?_|refine az ?_|(refine bT ?_;intro g)|(refine bQ ?_;intro g)|(refine ai (aa iI rfl dY iI) rfl ?_;intro vb)|(refine ai (au dA [(to,p.out)] iI iI iI rfl rfl rfl rfl rfl iI rfl rfl rfl) rfl ?_;intro vx)|(refine ai (aR rfl rfl iI iI rfl iI iI gU (by first|omega|(simp[al]<;>omega)) rfl) rfl ?_;intro va))
 --tg
 exact aj (.inr rfl) rfl ⟨va,rfl,ah⟩
theorem uJ (a b:Int):Spec Tryz.prog w0 187 [.int .i64 a,.int .i64 b] emp (fun _:Unit=> .int .i64 (min a b)) (fun _=>emp):=by
 refine Spec.enter Tryz.func187 rfl Tryz.ntmps187 rfl fun G=> ?_
 simp only[aN]
 by_cases h:a<b
 ·rw[Int.min_eq_left (by omega)]
  repeat' (first|(refine ab ?_;intro K hK)|(refine hK _ ?_;clear hK K)|refine ax ?_|(refine aF ?_ ?_<;>intro hc<;>(try simp only[cS]at hc)<;>(try exact aG))|refine aX ?_|refine az ?_)
  exact aC (.inl rfl) rfl rfl ⟨(),rfl,ah⟩
 ·rw[Int.min_eq_right (by omega)]
  repeat' (first|(refine ab ?_;intro K hK)|(refine hK _ ?_;clear hK K)|refine ax ?_|(refine aF ?_ ?_<;>intro hc<;>(try simp only[cS]at hc)<;>(try exact aG))|refine aX ?_|refine az ?_)
  exact aC (.inl rfl) rfl rfl ⟨(),rfl,ah⟩
end
section
def jv (now:UInt64) (l:List (Rq×UInt64)) (a b:UInt32):Bool:=l.any fun x=>decide (x.1.src=a)&&(decide (x.1.id=b)&&decide (now<x.2))
def ml (now:UInt64) (l:List (Rq×UInt64)):List (Rq×UInt64):=l.filter fun x=>decide (now<x.2)
def mK (l:List (Rq×UInt64)) (i:Nat):UInt64:=(l.getD i (⟨0,0⟩,0)).2
def jU (l:List (Rq×UInt64)) (k:Nat):Nat:=(List.range k).foldl (fun i j=>if mK l j<mK l i then j else i) 0
theorem oP (l:List (Rq×UInt64)) (k:Nat):jU l (k+1)=if mK l k<mK l (jU l k)then k else jU l k:=by
 unfold jU
 rw[List.range_succ,List.foldl_append]
 rfl
theorem tG (l:List (Rq×UInt64)):∀k,k≤l.length→0<l.length→jU l k<l.length
 |0,_,h=>h
 |k+1,hk,h=>by
  have:=tG l k (by omega) h
  rw[oP]
  split<;>omega
def dV (now:UInt64) (l:List (Rq×UInt64)) (r:Rq):List (Rq×UInt64):=ml now l++[(r,now+1280)]
def qR (now:UInt64) (l:List (Rq×UInt64)) (r:Rq):List (Rq×UInt64):=
 if(dV now l r).length≤16 then dV now l r else(dV now l r).take (jU (dV now l r) (dV now l r).length)++(dV now l r).drop (jU (dV now l r) (dV now l r).length+1)
def eK (m:List (Rq×UInt64)) (l:List Rq):List (Rq×UInt64):=l.map fun q=>(q,seenAt m q)
theorem sL {m m':List (Rq×UInt64)} {l:List Rq} (h:∀q∈l,seenAt m' q=seenAt m q):eK m' l=eK m l:=List.map_congr_left fun q hq=>by rw[h q hq]
theorem uj {m m':List (Rq×UInt64)} {q:Rq} (h:bX m' q=bX m q):seenAt m' q=seenAt m q:=by unfold seenAt;rw[h]
theorem C9 (now:UInt64) {m:List (Rq×UInt64)} (hm:KN m):∀{l:List Rq},l.Nodup→KN (dg now m l).1∧(dg now m l).2=l.filter (fun q=>decide (now<seenAt m q))∧∀q,bX (dg now m l).1 q=if q∈l∧¬now<seenAt m q then none else bX m q:=by
 intro l
 induction l using eE with
 |nil=>intro _;exact⟨hm,rfl,fun q=>by rw[if_neg (by simp)];rfl⟩
 |snoc l x ih=>
  intro hn
  rw[List.nodup_append]at hn
  obtain⟨h1,h2,h3⟩:=ih hn.1
  have hx:x∉l:=fun hx=>hn.2.2 x hx x (by simp) rfl
  rw[oY]
  have hs:seenAt (dg now m l).1 x=seenAt m x:=uj (by rw[h3,if_neg (fun h=>hx h.1)])
  unfold pO
  rw[hs,List.filter_append]
  by_cases hc:now<seenAt m x
  ·rw[if_pos hc]
   refine⟨h1,?_,fun q=> ?_⟩
   ·simp only
    rw[h2]
    simp[hc]
   ·simp only
    rw[h3]
    by_cases e:q=x
    ·subst e
     rw[if_neg (fun h=>hx h.1),if_neg (fun h=>h.2 hc)]
    ·simp only[List.mem_append,List.mem_singleton,e,or_false]
  ·rw[if_neg hc]
   refine⟨h1.gq x,?_,fun q=> ?_⟩
   ·simp only
    rw[h2]
    simp[hc]
   ·simp only
    rw[nh h1]
    by_cases e:x=q
    ·subst e
     rw[if_pos rfl,if_pos ⟨by simp,hc⟩]
    ·rw[if_neg e,h3]
     simp only[List.mem_append,List.mem_singleton,Ne.symm e,or_false]
theorem AD (now:UInt64) (m:List (Rq×UInt64)) (l:List Rq):ml now (eK m l)=eK m (l.filter fun q=>decide (now<seenAt m q)):=by
 unfold ml eK
 rw[List.filter_map]
 rfl
theorem sR {m:List (Rq×UInt64)} {l:List Rq} {i:Nat} (h:i<l.length):mK (eK m l) i=seenAt m (l.getD i ⟨0,0⟩):=by
 unfold mK eK
 simp[List.getD_eq_getElem?_getD,h]
theorem rR {m:List (Rq×UInt64)} {l:List Rq}:∀k,k≤l.length→0<l.length→jU (eK m l) k=ib m l k
 |0,_,_=>rfl
 |k+1,hk,h=>by
  have hl:(eK m l).length=l.length:=by simp[eK]
  have h1:=tG (eK m l) k (by omega) (by omega)
  rw[oP,nM,sR (by omega),sR (by omega),rR k (by omega) h]
  rfl
section
variable {W:TW} {s:Nd} {d:RD}
theorem Twin.NO (h:Twin W s d):d.seen=eK s.seen s.order:=h.seen
theorem Twin.RI (h:Twin W s d) (a b:UInt32):jv s.now d.seen a b=decide (s.now<seenAt s.seen ⟨a,b⟩):=by
 rw[h.NO]
 unfold jv eK
 rw[List.any_map]
 by_cases hk:s.now<seenAt s.seen ⟨a,b⟩
 ·rw[decide_eq_true hk,List.any_eq_true]
  have hm:(⟨a,b⟩:Rq)∈s.order:=by
   by_cases hm:(⟨a,b⟩:Rq)∈s.order
   ·exact hm
   ·have:=h.oz _ hm
    unfold seenAt at hk
    rw[this]at hk
    exact absurd hk (UInt64.not_lt_zero)
  refine⟨_,hm,?_⟩
  simp[hk]
 ·rw[decide_eq_false hk,List.any_eq_false]
  rintro⟨x,y⟩ hq hc
  simp only[Function.comp,Bool.and_eq_true,decide_eq_true_eq]at hc
  obtain⟨rfl,rfl,hc⟩:=hc
  exact hk hc
theorem Twin.aT (h:Twin W s d) (r:Rq) (hr:¬s.now<seenAt s.seen r) (hid:r.src=s.self→r.id.toNat≤s.ids.toNat) (vs:Value):Twin W (s.aT r) {d with vs:=vs,seen:=qR s.now d.seen r}:=by
 obtain⟨k1,k2,k3⟩:=C9 s.now h.DB h.o9
 have Es:r∉(dg s.now s.seen s.order).2:=fun hm=>by
  rw[k2]at hm
  exact hr (by simpa using(List.mem_filter.1 hm).2)
 have xm:((dg s.now s.seen s.order).2++[r]).Nodup:=by
  rw[List.nodup_append]
  refine⟨?_,by simp,fun a ha b hb=> ?_⟩
  ·rw[k2];exact h.o9.filter _
  ·simp at hb;subst hb
   rintro rfl
   exact Es ha
 have J0:KN (bY (dg s.now s.seen s.order).1 r (s.now+1280)):=k1.bY _ _
 have l5:∀q,q≠r→bX (bY (dg s.now s.seen s.order).1 r (s.now+1280)) q=if q∈s.order∧¬s.now<seenAt s.seen q then none else bX s.seen q:=fun q hq=>by
  rw[fo,if_neg (Ne.symm hq),k3]
 have Ra:∀q∈(dg s.now s.seen s.order).2,bX (bY (dg s.now s.seen s.order).1 r (s.now+1280)) q=bX s.seen q:=fun q hq=>by
  rw[l5 q (fun e=>Es (e▸hq)),if_neg]
  rw[k2]at hq
  exact fun h=>h.2 (by simpa using(List.mem_filter.1 hq).2)
 have mZ:∀q,q∉(dg s.now s.seen s.order).2++[r]→bX (bY (dg s.now s.seen s.order).1 r (s.now+1280)) q=none:=fun q hq=>by
  simp only[List.mem_append,List.mem_singleton,not_or]at hq
  rw[l5 q hq.2]
  split
  ·rfl
  ·rename_i hc
   refine h.oz q fun hm=>hc ⟨hm,fun bW=>hq.1 ?_⟩
   rw[k2]
   exact List.mem_filter.2 ⟨hm,by simpa using bW⟩
 have Ef:dV s.now d.seen r=eK (bY (dg s.now s.seen s.order).1 r (s.now+1280)) ((dg s.now s.seen s.order).2++[r]):=by
  unfold dV
  rw[h.NO,AD,←k2]
  have e1:eK s.seen (dg s.now s.seen s.order).2=eK (bY (dg s.now s.seen s.order).1 r (s.now+1280)) (dg s.now s.seen s.order).2:=sL fun q hq=>(uj (Ra q hq)).symm
  have e2:seenAt (bY (dg s.now s.seen s.order).1 r (s.now+1280)) r=s.now+1280:=by
   unfold seenAt
   rw[fo,if_pos rfl,Option.getD_some]
  have e3:∀(m:List (Rq×UInt64)) (l:List Rq),eK m (l++[r])=eK m l++[(r,seenAt m r)]:=fun m l=>by unfold eK;rw[List.map_append];rfl
  rw[e1,e3,e2]
 have ow:∀q∈(dg s.now s.seen s.order).2++[r],q.src=s.self→q.id.toNat≤s.ids.toNat:=fun q hq hs=>by
  rcases List.mem_append.1 hq with hq|hq
  ·rw[k2]at hq
   exact h.o7 q (List.mem_filter.1 hq).1 hs
  ·simp at hq;subst hq
   exact hid hs
 unfold Nd.aT
 simp only
 generalize hm:bY (dg s.now s.seen s.order).1 r (s.now+1280)=m at*
 generalize hl:(dg s.now s.seen s.order).2++[r]=l at*
 have hlen:(dV s.now d.seen r).length=l.length:=by rw[Ef];simp[eK]
 unfold qR
 by_cases Om:l.length≤16
 ·rw[if_pos Om,if_pos (by rw[hlen];exact Om),Ef]
  exact⟨h.held,h.mY,h.kg,rfl,xm,mZ,ow,h.wait,h.mL,h.hP,h.search,h.jT,h.Br,h.fN,h.aP,h.oA,h.ns,h.nX,J0,h.Bp,h.FP,h.oy⟩
 ·rw[if_neg Om,if_neg (by rw[hlen];exact Om),Ef]
  have En:0<l.length:=by omega
  have Lw:(eK m l).length=l.length:=by simp[eK]
  rw[Lw,rR l.length (Nat.le_refl _) En]
  have bW:=nL m l l.length (Nat.le_refl _) En
  generalize ib m l l.length=i at*
  have hg:l.getD i ⟨0,0⟩=l[i]:=by simp[List.getD_eq_getElem?_getD,bW]
  have Ow:l=l.take i++l[i]::l.drop (i+1):=by
   conv=>lhs;rw[←List.take_append_drop i l,List.drop_eq_getElem_cons bW]
  have Np:(l.take i++l.drop (i+1)).Sublist l:=by
   conv=>rhs;rw[Ow]
   exact List.Sublist.append (List.Sublist.refl _) (List.sublist_cons_self _ _)
  have Uu:l[i]∉l.take i++l.drop (i+1):=fun hx=>by
   rw[Ow]at xm
   rw[List.nodup_append]at xm
   obtain⟨n1,n2,n3⟩:=xm
   rw[List.nodup_cons]at n2
   rcases List.mem_append.1 hx with hx|hx
   ·exact n3 _ hx _ List.mem_cons_self rfl
   ·exact n2.1 hx
  refine⟨h.held,h.mY,h.kg,?_,xm.sublist Np,fun q hq=> ?_,fun q hq=>ow q (Np.subset hq),h.wait,h.mL,h.hP,h.search,h.jT,h.Br,h.fN,h.aP,h.oA,h.ns,h.nX,J0.gq _,h.Bp,h.FP,h.oy⟩
  ·show(eK m l).take i++(eK m l).drop (i+1)=eK (gq m (l.getD i ⟨0,0⟩)) (l.take i++l.drop (i+1))
   rw[sL (m:=m) (m':=gq m (l.getD i ⟨0,0⟩)) (fun q hq=>uj (by rw[nh J0,hg,if_neg (fun e=>Uu (by rw[e];exact hq))]))]
   unfold eK
   rw[List.map_append,List.map_take,List.map_drop]
  ·show bX (gq m (l.getD i ⟨0,0⟩)) q=none
   rw[nh J0,hg]
   split
   ·rfl
   ·rename_i mi
    refine mZ q fun hm=>hq ?_
    rw[Ow]at hm
    rcases List.mem_append.1 hm with hm|hm
    ·exact List.mem_append_left _ hm
    ·rcases List.mem_cons.1 hm with hm|hm
     ·exact absurd hm.symm mi
     ·exact List.mem_append_right _ hm
end
end
section
open Go.RowKit
theorem vp (l:List Rec) (k:Nat) (r:Rec) (h:l[k]? =some r):b9 (l.take (k+1))=b9 (l.take k)++r.bytes:=by
 rw[List.take_add_one,h]
 simp[b9]
theorem KS (l:List Rec) (k:Nat):(b9 (l.take k)).length≤13*l.length:=by
 rw[nT,List.length_take]
 omega
attribute [local irreducible] WS LS cD eM cn cv Spec bA aK di cq
variable (w0:World)
theorem qq (l:List Rec) (hl:l.length≤10000) (v:Value) (X:af) [hX:eX w0 X v Rec 3 Rec.cells l]:Spec Tryz.prog w0 95 [v] X (fun _:Unit=>aZ (b9 l)) (fun _=>X):=by
 refine Spec.enter Tryz.func95 rfl Tryz.ntmps95 rfl fun G=> ?_
 simp only[aN]
 repeat' (first|(refine ab ?_;intro K hK)|(refine hK _ ?_;clear hK K)|refine ax ?_|refine az ?_)
 refine aV (fun kk τ=>∃(i:Nat),i+kk=l.length∧τ=⟨[(4,.int .i64 (i:Int)),(3,aZ (b9 (l.take i))),(0,v)],[],X*G⟩) ?_ ?_
 ·exact⟨l.length,_,⟨0,by omega,rfl⟩,cG,rfl,ah⟩
 ·rintro kk τ ⟨i,qE,rfl⟩
  rcases Nat.lt_or_ge i l.length with h|h
  ·have h1:(i:Int)<(l.length:Int):=by omega
   obtain⟨r,hr⟩:∃r,l[i]? =some r:=⟨_,List.getElem?_eq_getElem h⟩
   have p1:=mz w0 r
   have hs:=vp l i r hr
   have hb:=KS l i
   have FT:=Rec.dz r
   simp only[Rec.cells]at p1
   repeat' (first|(refine ab ?_;intro K hK)|(refine hK _ ?_;clear hK K)|refine ax ?_|(refine aF ?_ ?_<;>intro hc<;>(try simp only[cS]at hc)<;>(try exact aG))|refine aX ?_|refine az ?_|((refine' LQ ?zh rfl ?_);case zh=>intro F';exact kP rfl rfl (by first|omega|(simp[al]<;>omega)))|(refine ai (aa iI rfl p1 ⟨aB.symm⟩) rfl ?_;intro u1))
   exact⟨kk - 1,_,by omega,⟨i+1,by omega,rfl⟩,⟨rfl,by rw[hs];rfl,rfl,trivial⟩,rfl,ah⟩
  ·have h1:¬(i:Int)<(l.length:Int):=by omega
   rw[List.take_of_length_le h]
   repeat' (first|(refine ab ?_;intro K hK)|(refine hK _ ?_;clear hK K)|refine ax ?_|(refine aF ?_ ?_<;>intro hc<;>(try simp only[cS]at hc)<;>(try exact aG))|refine aX ?_|refine az ?_)
   exact aC (.inl rfl) rfl rfl ⟨(),rfl,ah⟩
theorem uh (gn:Nat) (s:Nd) (d:RD) (a b:UInt32) (hl:d.seen.length≤10000):Spec Tryz.prog w0 185 [ptr gn 0,u32 a,u32 b] (cR gn s d) (fun _:Unit=> .bool (jv s.now d.seen a b)) (fun _=>cR gn s d):=by
 refine Spec.enter Tryz.func185 rfl Tryz.ntmps185 rfl fun G=> ?_
 unfold cR bc cc
 simp only[aN,bN,ad]
 repeat' (first|(refine ab ?_;intro K hK)|(refine hK _ ?_;clear hK K)|refine ax ?_|refine az ?_)
 refine aV (fun kk τ=>∃(i:Nat),i+kk=d.seen.length∧jv s.now d.seen a b=jv s.now (d.seen.drop i) a b∧τ=⟨[(7,.int .i64 (i:Int)),(2,u32 b),(1,u32 a),(0,ptr gn 0)],[],aK gn 195 (bN s d s.out)*(rows 312 3 jM d.vs d.seen*(rows 28 3 Rec.cells d.vr s.aI*(rows 28 3 Rec.cells d.vh d.held*(ct d.tb s.self s.ls*(cy d s.out*(rows 243 2 dA d.vw d.wait*(rows 210 6 uM d.vq d.search*(rows 24 1 eL d.vt d.aP*G))))))))⟩) ?_ ?_
 ·exact⟨d.seen.length,_,⟨0,by omega,rfl,rfl⟩,cG,rfl,by simp only[bN];exact ah⟩
 ·rintro kk τ ⟨i,qE,hk,rfl⟩
  simp only[bN]
  rcases Nat.lt_or_ge i d.seen.length with h|h
  ·have h1:(i:Int)<(d.seen.length:Int):=by omega
   obtain⟨z,hz⟩:∃z,d.seen[i]? =some z:=⟨_,List.getElem?_eq_getElem h⟩
   have hd:d.seen.drop i=z::d.seen.drop (i+1):=by
    obtain⟨h2,h3⟩:=List.getElem?_eq_some_iff.1 hz
    rw[List.drop_eq_getElem_cons h2,h3]
   have vS:jv s.now d.seen a b=((decide (z.1.src=a)&&(decide (z.1.id=b)&&decide (s.now<z.2)))||jv s.now (d.seen.drop (i+1)) a b):=by
    rw[hk,hd];rfl
   by_cases h2:z.1.src=a
   ·by_cases h3:z.1.id=b
    ·by_cases h4:s.now<z.2
     ·have FY:jv s.now d.seen a b=true:=by rw[vS,decide_eq_true h2,decide_eq_true h3,decide_eq_true h4];rfl
      rw[FY]
      repeat' (first|refine ag (id:=4) (.range 37) ?_|(refine ab ?_;intro K hK)|(refine hK _ ?_;clear hK K)|refine ax ?_|(refine aF ?_ ?_<;>intro hc<;>(try simp only[cS]at hc)<;>(try exact aG))|refine aX ?_|refine az ?_)
      exact aC (.inl rfl) rfl rfl ⟨(),rfl,ah⟩
     ·have FY:jv s.now d.seen a b=jv s.now (d.seen.drop (i+1)) a b:=by rw[vS,decide_eq_false h4,Bool.and_false,Bool.and_false,Bool.false_or]
      repeat' (first|refine ag (id:=4) (.range 37) ?_|(refine ab ?_;intro K hK)|(refine hK _ ?_;clear hK K)|refine ax ?_|(refine aF ?_ ?_<;>intro hc<;>(try simp only[cS]at hc)<;>(try exact aG))|refine aX ?_|refine az ?_)
      exact⟨kk - 1,_,by omega,⟨i+1,by omega,FY,rfl⟩,cG,rfl,by simp only[bN];exact ah⟩
    ·have FY:jv s.now d.seen a b=jv s.now (d.seen.drop (i+1)) a b:=by rw[vS,decide_eq_false h3,Bool.false_and,Bool.and_false,Bool.false_or]
     repeat' (first|refine ag (id:=4) (.range 37) ?_|(refine ab ?_;intro K hK)|(refine hK _ ?_;clear hK K)|refine ax ?_|(refine aF ?_ ?_<;>intro hc<;>(try simp only[cS]at hc)<;>(try exact aG))|refine aX ?_|refine az ?_)
     exact⟨kk - 1,_,by omega,⟨i+1,by omega,FY,rfl⟩,cG,rfl,by simp only[bN];exact ah⟩
   ·have FY:jv s.now d.seen a b=jv s.now (d.seen.drop (i+1)) a b:=by rw[vS,decide_eq_false h2,Bool.false_and,Bool.false_or]
    repeat' (first|refine ag (id:=4) (.range 37) ?_|(refine ab ?_;intro K hK)|(refine hK _ ?_;clear hK K)|refine ax ?_|(refine aF ?_ ?_<;>intro hc<;>(try simp only[cS]at hc)<;>(try exact aG))|refine aX ?_|refine az ?_)
    exact⟨kk - 1,_,by omega,⟨i+1,by omega,FY,rfl⟩,cG,rfl,by simp only[bN];exact ah⟩
  ·have h1:¬(i:Int)<(d.seen.length:Int):=by omega
   have FY:jv s.now d.seen a b=false:=by rw[hk,List.drop_eq_nil_of_le h];rfl
   rw[FY]
   repeat' (first|(refine ab ?_;intro K hK)|(refine hK _ ?_;clear hK K)|refine ax ?_|(refine aF ?_ ?_<;>intro hc<;>(try simp only[cS]at hc)<;>(try exact aG))|refine aX ?_|refine az ?_)
   exact aC (.inl rfl) rfl rfl ⟨(),by rw[FY],ah⟩
end
end Go.Proofs.YtapoehkdnglahabGreat
