/- A part. -/
import Derived.Test.YtapoehkdnglahabGreatMs
import Derived.Test.YtapoehkdnglahabGreatMu
set_option maxHeartbeats 16000000
set_option maxRecDepth 100000
set_option linter.all false
namespace Go.Proofs.YtapoehkdnglahabGreat
section
open Go.RowKit
def TA (f:FuncId):Value:= .func (.func f) #[] #[]
instance Qx (f:FuncId):zaF TA (.func (.func f) #[] #[]) f:=⟨rfl⟩
section
variable {P:Program} {n:fT} {w0:World} {E:Env} {D:List Deferred} {H F F1 F2:af} {Q:Exit->St->Prop} {l l':List Oper}
theorem IM {κ ν:Type} [DecidableEq κ] {fk:κ->Value} {fv:ν->Value} {r:Nat} {m:List (κ×ν)} {ty:TypeId} {pos:String} {after:Array Edge} {gu:Option (Tmp×Bool)} {x y z':Operand} {t kt et:TypeId} {k:κ} {v:Value} {u:ν} {uv:Value} (hx:E.ev x=some (.map (some r))) (hy:E.ev y=some v) (hz:E.ev z'=some uv) (hl:jQ H r κ ν fk fv m F) (hkk:zaF fk v k) (UN:zaF fv uv u) (hm:rp P t kt et) (hk:ou P kt fk):
 cn P n w0 ⟨none,.insert t x y z',ty,pos,after,gu⟩ E H (λ_:Unit=>undef) (λ_=>mp fk fv r (bY m k u)*F):=by
 obtain rfl:=hkk.eq
 obtain rfl:=UN.eq
 refine cn.mk' (pre:=mp fk fv r m) (post:=λ_=>mp fk fv r (bY m k u)) (λG a w K Q s hs hK=> ?_) hl.eq
 obtain⟨w',hr,eI⟩:=qo (k:=k) (u:=u) w hm.eq hs
 have:=hK () w' eI
 simp only[Act.put]at this
 simp only[Oper.wp,execOp,s.ev hx,s.ev hy,s.ev hz,Sem.run_bind,hr,Result.andThen_ok,Sem.run_pure,Oper.upon_skip]
 exact this
theorem Ft {ops R B cp k} {o:Oper} {ls v} (he:mD o.op=false) (hd:gC n o.dst=true) (hB:B (k+1000)=true) (hg:o.guard=none) (iZ:OpQ P n w0 o E (R*F) v) (h:DL P n w0 ops Q D R emp B cp (k+1) false ls (E.zaI o.dst v) F):DL P n w0 ops Q D R emp B cp k false (o::ls) E F:=
 .qs he hd hB ⟨true,by unfold fO;rw[hg]⟩ (by show OpQ P n w0 o E (R*(emp*F)) v;rw[aB];exact iZ) h
theorem nB {id:Nat} (t t2 t3:Nat) (idx bs:List Nat) {g off g2 A5 g3 U8:Nat} {bt rJ DV:TypeId} {cs pV D2:List Value} (hs:iT P l idx (yA bs) 1000=true) (hl:jK l idx=some l') (hx:E.get t=some (ptr g off)) (qb:E.get t2=some (ptr g2 A5)) (Wo:E.get t3=some (ptr g3 U8)) (hR:v7 H g bt cs F1) (Ca:v7 F1 g2 rJ pV F2) (QL:v7 F2 g3 DV D2 F) (h:DL P n w0 l.toArray Q D (aK g bt cs*(aK g2 rJ pV*aK g3 DV D2)) emp (yA bs) 1000 0 false l' E F):WS P n w0 (.region id l.toArray true) Q ⟨E,D,H⟩:=
 iK idx l' (aK g bt cs*(aK g2 rJ pV*aK g3 DV D2)) emp F _ 1000 hs (by rw[aB,hR.eq,Ca.eq,QL.eq,ad,ad]) (gO hl) h
end
def QM:List (Int×FuncId):=[(1,118),(2,119),(3,120),(9,121)]
attribute [local irreducible] WS LS OpQ y6 cn cv Spec bA aK
variable (w0:World)
theorem yx:Spec ucC w0 69 [] emp (λr:Nat=> .map (some r)) (λr=>mp i64 TA r QM):=by
 refine eZ Tryz.func69 Tryz.ntmps69 λG=> ?_;simp only[aN];repeat' (first|intro K hK|refine ax ?_|(refine ai (ew i64 TA) rfl ?_;intro r)|(refine bL (IM rfl rfl rfl iI iI iI iI iI) ?_;intro g))
 exact aC (.inl rfl) rfl rfl ⟨r,rfl,ah⟩
theorem Nd.KR {s:Nd} {now src f} (h:s.LK now src f):s.mb now src f=s.gQ now src f:=by
 unfold Nd.mb;rcases h with h|h|h
 ·rw[h]
 ·cases Pk.dec f with
  |none=>rfl
  |some p=>
   simp only;rw[jF];rcases h with h|h
   ·exact .inl h
   ·exact .inr (.inl h)
 ·cases Pk.dec f with
  |none=>rfl
  |some p=>simp only;rw[jF (.inr (.inr h))]
theorem HU (gn:Nat) (s:Nd) (now:UInt64) (src:UInt32) (f:cP) (hi:s.Inv) (hf:f.length<=100000) (qB:s.Fit 8) (OA:s.out.aJ.length<=10000) (uD:s.out.dropped.length<=10000) (bf br bn bw:Nat) (tf tr tn tw:TypeId) (v:Value) (X:af) [hX:eX w0 X v UInt8 1 bU f]:
 Spec ucC w0 65 [ptr bf 0,ptr br 0,ptr bn 0,ptr bw 0] (eD gn s*(aK bf tf [v]*(aK br tr [u32 src]*(aK bn tn [ptr gn 0]*(aK bw tw [u64 now]*X))))) (λ_:Unit=> .tuple #[]) (λ_=>eD gn (s.mb now src f)*X):=by
 by_cases hq:s.LK now src f
 ·rw[Nd.KR hq]
  exact HV w0 gn s now src f hq hf OA uD bf br bn bw tf tr tn tw v X
 obtain⟨p,hp⟩:∃p,Pk.dec f=some p:=by
  cases h:Pk.dec f with
  |none=>exact absurd (.inl h) hq
  |some p=>exact⟨p,rfl⟩
 have h1:¬src=0:=λe=>hq (.inr (.inl (.inl e)))
 have h2:¬src=s.self:=λe=>hq (.inr (.inl (.inr e)))
 have h3:¬now<s.cd:=λe=>hq (.inr (.inr e))
 have es:s.mb now src f=s.handle src p:=by
  unfold Nd.mb;rw[hp];simp only;rw[eQ];rintro(e|e|e)
  ·exact h1 e
  ·exact h2 e
  ·exact h3 e
 have Ls:=Pk.rN hp
 have hk:p.kind=1\/p.kind=2\/p.kind=3\/p.kind=9:=by
  obtain⟨⟨_,hk⟩,_⟩:=Pk.oM hp;rcases hk with hk|hk|hk|hk
  ·exact .inl hk.1
  ·exact .inr (.inl hk.1)
  ·exact .inr (.inr (.inl hk.1))
  ·exact .inr (.inr (.inr hk.1))
 have Ch:s.handle src p=if p.kind=1 then s.qd src p else if p.kind=2 then s.rep src p else if p.kind=3 then s.xC src p else s.ov src p:=rfl
 have Cm:=gS hi p.dest
 refine eZ Tryz.func65 Tryz.ntmps65 λG=> ?_
 rw[ad (eD gn s)]
 refine wA λh=> ?_
 have p1:=sT w0 f hf v X
 have q1:=λvl=>Be w0 gn s h src p Ls vl hi.dp.dp hi.order (qB.le (by omega))
 have q2:=λvl=>E6 w0 gn s h src p Ls vl hi.dp.dp hi.sr (by omega) (λt ht=>by have:=Cm.2 t ht;omega) (qB.le (by omega))
 have q3:=λvl=>EF w0 gn s h src p Ls vl (qB.le (by omega))
 have q4:=λvl=>G8 w0 gn s h src p Ls vl hi.dp.dp (qB.le (by omega))
 unfold j6 ey at p1
 simp only[hp,CV,uz]at p1
 rw[es,Ch]
 clear es Ch hq hp Ls Cm
 obtain⟨bK,kind,aH,unknown,id,dest,ak,QH,av,bD,lost,ar⟩:=p
 simp only[Pk.val,Pk.cells]at p1 q1 q2 q3 q4 hk ⊢
 have p2:=yx w0
 simp only[bG,aY,b7]at q1 q2 q3 q4 ⊢
 simp only[aN]
 rcases hk with rfl|rfl|rfl|rfl
 ·rw[jF rfl]
  clear q2 q3 q4
  repeat' (first|refine zgH ?_|refine ag (id:=4) (.range 7) ?_|intro hc|refine yZ ?_|refine aF ?_ ?_|refine cZ p1 λvl=> ?_|refine zhz ?_|refine cZ p2 λr=> ?_|(refine' Ft rfl rfl rfl rfl ?zh ?_;(case zh=>exact fh rfl rfl iI iI iI iI iI rfl))|(refine aD (rm iI rfl rfl (q1 _) iI) rfl rfl rfl ?_;intro u5))
  exact aj (.inr rfl) rfl ⟨(),rfl,by rw[ad (eD _ _)];exact ah⟩
 ·rw[eQ (by decide),jF rfl]
  clear q1 q3 q4
  repeat' (first|refine zgH ?_|refine ag (id:=4) (.range 7) ?_|intro hc|refine yZ ?_|refine aF ?_ ?_|refine cZ p1 λvl=> ?_|refine zhz ?_|refine cZ p2 λr=> ?_|(refine' Ft rfl rfl rfl rfl ?zh ?_;(case zh=>exact fh rfl rfl iI iI iI iI iI rfl))|(refine aD (rm iI rfl rfl (q2 _) iI) rfl rfl rfl ?_;intro u5))
  exact aj (.inr rfl) rfl ⟨(),rfl,by rw[ad (eD _ _)];exact ah⟩
 ·rw[eQ (by decide),eQ (by decide),jF rfl]
  clear q1 q2 q4
  repeat' (first|refine zgH ?_|refine ag (id:=4) (.range 7) ?_|intro hc|refine yZ ?_|refine aF ?_ ?_|refine cZ p1 λvl=> ?_|refine zhz ?_|refine cZ p2 λr=> ?_|(refine' Ft rfl rfl rfl rfl ?zh ?_;(case zh=>exact fh rfl rfl iI iI iI iI iI rfl))|(refine aD (rm iI rfl rfl (q3 _) iI) rfl rfl rfl ?_;intro u5))
  exact aj (.inr rfl) rfl ⟨(),rfl,by rw[ad (eD _ _)];exact ah⟩
 ·rw[eQ (by decide),eQ (by decide),eQ (by decide)]
  clear q1 q2 q3
  repeat' (first|refine zgH ?_|refine ag (id:=4) (.range 7) ?_|intro hc|refine yZ ?_|refine aF ?_ ?_|refine cZ p1 λvl=> ?_|refine zhz ?_|refine cZ p2 λr=> ?_|(refine' Ft rfl rfl rfl rfl ?zh ?_;(case zh=>exact fh rfl rfl iI iI iI iI iI rfl))|(refine aD (rm iI rfl rfl (q4 _) iI) rfl rfl rfl ?_;intro u5))
  exact aj (.inr rfl) rfl ⟨(),rfl,by rw[ad (eD _ _)];exact ah⟩
end
section
open Go.RowKit
theorem Nd.Step.gQ (s:Nd) (now src f):s.Step (s.gQ now src f) 2 0:=by
 unfold Nd.gQ;split
 ·exact paW
 ·rename_i p hp;split
  ·exact paW
  ·split
   ·have k:=(Nd.Step.tell s src p.dest (eJ s.ls p.dest)).trans (Nd.Step.zero (t:={s.tell src p.dest (eJ s.ls p.dest)with cd:=now+2000}) rfl rfl rfl rfl);exact(k.trans (Nd.Step.drop _ _)).le (by omega) (by omega)
   ·exact paW
theorem Nd.Step.mb {s:Nd} (h:s.Inv) (now src f):s.Step (s.mb now src f) 6 0:=by
 unfold Nd.mb;split
 ·exact(Nd.Step.gQ _ _ _ _).le (by omega) (by omega)
 ·rename_i p hp;have:=(gS h p.dest).1;split
  ·exact(Nd.Step.gQ _ _ _ _).le (by omega) (by omega)
  ·exact(Nd.Step.handle _ _ _).le (by omega) (by omega)
theorem Nd.Inv.mb {s:Nd} (h:s.Inv) (now src f):(s.mb now src f).Inv:=by
 unfold Nd.mb;split
 ·exact h.gQ _ _ _
 ·rename_i p hp;split
  ·exact h.gQ _ _ _
  ·exact h.handle _ _ (Pk.rN hp).aH
attribute [local irreducible] WS LS OpQ y6 cn cv Spec bA aK
variable (w0:World)
theorem HK (gn) (s:Nd) (now from_) (f:cP) {c} (hr:s.Rest c) (hf:f.length<=100000) (v X) [hX:eX w0 X v UInt8 1 bU f]:
 Spec ucC w0 34 [ptr gn 0,u64 now,u32 from_,v] (jg gn s*X) (λx:Value×Value×Value=>fp (s.iX now from_ f).out x) (λx=>jg gn (s.iX now from_ f)*(r5 (s.iX now from_ f).out x*X)):=by
 have ok:=hr.inv.dp.dp
 have hb:=hr.inv.begin now
 have hs:=Nd.Step.mb hb now from_ f
 have h1:=Nd.fL s now ok
 have h2:=Nd.fK s now ok
 have h3:=hs.aI
 have h4:=hs.ay
 have h5:=hr.aI
 have p1:=λbf br bn bw=>pB w0 gn s ((s.begin now).mb now from_ f) now (by omega) ok (by omega) (by omega) (hb.mb now from_ f).dp.dp 65 [ptr bf 0,ptr br 0,ptr bn 0,ptr bw 0] _ _ (HU w0 gn (s.begin now) now from_ f hb hf ((Nd.lz hr now).le (by omega)) (by rw[Nd.lk];simp) (by rw[Nd.mC];simp) bf br bn bw 25 26 90 24 v X)
 unfold Nd.iX
 generalize ((s.begin now).mb now from_ f).done=s2 at p1 ⊢
 simp only[fp,r5]at p1 ⊢
 refine eZ Tryz.func34 Tryz.ntmps34 λG=> ?_
 simp only[aN]
 repeat' (first|intro K hK|refine ax ?_|refine bT λg=> ?_|refine bQ λg=> ?_|(refine ai (aa iI rfl (p1 _ _ _ _) iI) rfl ?_;intro x))
 exact gD (.inl rfl) rfl (aS rfl iI iI rfl) ⟨x.1,rfl,ah⟩
end
section
def Nd.bz (s t:Nd):Prop:=∃l:List (UInt32×Pk),t.out.aJ=s.out.aJ++l.map λx=>(x.1,x.2.out)
theorem Nd.bz.of {s t:Nd} (h:t.out.aJ=s.out.aJ):s.bz t:=⟨[],by simp[h]⟩
theorem Nd.bz.trans {s t u:Nd} (h:s.bz t) (k:t.bz u):s.bz u:=by
 obtain⟨l,hl⟩:=h;obtain⟨m,hm⟩:=k;exact⟨l++m,by rw[hm,hl,EZ,EK]⟩
theorem Nd.bz.send (s:Nd) (to p):s.bz (s.send to p):=⟨[(to,p)],rfl⟩
theorem Nd.bz.same {s t:Nd} (h:s.fz t):s.bz t:=Nd.bz.of h.aJ
theorem Nd.bz.hand (s:Nd) (d t):s.bz (s.hand d t):=by
 unfold Nd.hand;split
 ·exact Nd.bz.of rfl
 ·exact⟨[(_,_)],rfl⟩
theorem Nd.bz.bg (s:Nd) (d l):s.bz (s.bg d l):=by
 induction l using eE with
 |nil=>exact Nd.bz.of rfl
 |snoc l t ih=>rw[Nd.dX];exact ih.trans (Nd.bz.hand _ _ _)
theorem Nd.bz.flush (s:Nd) (d):s.bz (s.flush d):=by
 have h:=Nd.bz.bg s d (s.texts d);unfold Nd.flush;simp only;split
 ·exact h.trans (Nd.bz.of rfl)
 ·exact h.trans (Nd.bz.of rfl)
theorem Nd.bz.aT (s:Nd) (r):s.bz (s.aT r):=Nd.bz.of (by rw[(s.j2 r).2.2.2.1])
theorem Nd.bz.gE (s:Nd) (x):s.bz (s.gE x):=by
 have h0:s.bz {s with seq:=bS s.seq}:=Nd.bz.of rfl;have h1:=h0.trans (Nd.bz.same (Nd.fz.note {s with seq:=bS s.seq}));unfold Nd.gE;simp only;generalize Nd.note {s with seq:=bS s.seq}=t at*
 refine(h1.trans ?_).trans (Nd.bz.aT _ _);exact⟨[(_,_)],rfl⟩
theorem Nd.bz.ask (s:Nd) (k x):s.bz (s.ask k x):=by
 unfold Nd.ask;split
 ·exact Nd.bz.of rfl
 ·split
  ·exact Nd.bz.of rfl
  ·have h0:s.bz (s.cH k true):=Nd.bz.of rfl;exact(h0.trans (Nd.bz.gE _ x)).trans (Nd.bz.of rfl)
theorem Nd.bz.again (s:Nd) (k x):s.bz (s.again k x):=by
 unfold Nd.again;split
 ·exact Nd.bz.flush _ _
 ·split
  ·split
   ·rename_i y _;have h0:s.bz {s with bu:=s.bu.set k y}:=Nd.bz.of rfl;exact h0.trans (Nd.bz.ask _ k y)
   ·exact Nd.bz.of rfl
  ·exact Nd.bz.ask _ _ _
theorem Nd.bz.step {s t:Nd} {now} (h:s.step now=some t):s.bz t:=by
 unfold Nd.step at h;split at h
 ·cases h
 ·rename_i i _;simp only at h;have h0:s.bz {s with bI:=s.bI.eraseIdx i}:=Nd.bz.of rfl;split at h
  ·split at h
   ·cases h;exact h0.trans (Nd.bz.again _ _ _)
   ·cases h;exact h0
  ·cases h;exact h0
theorem Nd.bz.gT (now:UInt64):∀(f:Nat) (s:Nd),s.bz (s.gT f now)
 |0,s=>Nd.bz.of rfl
 |f+1,s=>by
  unfold Nd.gT;cases h:s.step now with
  |none=>exact Nd.bz.of rfl
  |some t=>exact(Nd.bz.step h).trans (Nd.bz.gT now f t)
theorem Nd.bz.answer (s:Nd) (p):s.bz (s.answer p):=by
 unfold Nd.answer;split
 ·exact Nd.bz.send _ _ _
 ·exact Nd.bz.of rfl
theorem Nd.bz.gR (s:Nd) (p):s.bz (s.gR p):=by
 unfold Nd.gR;split
 ·exact Nd.bz.of rfl
 ·split<;>exact Nd.bz.send _ _ _
theorem Nd.bz.jy (s:Nd) (p):s.bz (s.jy p):=by
 unfold Nd.jy;split
 ·have h0:s.bz {s with seq:=if p.unknown then s.seq else max s.seq p.ak}:=Nd.bz.of rfl;exact h0.trans (Nd.bz.answer _ _)
 ·split
  ·split
   ·rename_i x _ _;have h0:s.bz {s with ls:=gF (match bR s.ls p.from_ s.now with|some b=>gF s.ls p.dest b.next|none=>s.ls) p.from_ x.next}:=Nd.bz.of rfl;exact h0.trans (Nd.bz.answer _ _)
   ·exact Nd.bz.gR _ _
  ·exact Nd.bz.gR _ _
theorem Nd.bz.qd (s:Nd) (src p):s.bz (s.qd src p):=by
 unfold Nd.qd;split
 ·exact Nd.bz.of rfl
 ·simp only;have h1:=Nd.bz.aT s ⟨p.from_,p.id⟩;generalize s.aT ⟨p.from_,p.id⟩=s1 at*
  split
  ·exact h1.trans (Nd.bz.of rfl)
  ·refine h1.trans (Nd.bz.trans ?_ (Nd.bz.jy _ _));exact Nd.bz.of rfl
theorem Nd.bz.lost (s:Nd) (l):s.bz (s.lost l):=by
 unfold Nd.lost;split
 ·exact Nd.bz.send _ _ _
 ·exact Nd.bz.of rfl
theorem Nd.bz.xC (s:Nd) (src p):s.bz (s.xC src p):=by
 have h0:s.bz {s with ls:=(bV src s.ls p.lost).1}:=Nd.bz.of rfl;have h:=h0.trans (Nd.bz.lost _ (bV src s.ls p.lost).2.1);unfold Nd.xC;simp only;split
 ·exact h
 ·exact h.trans (Nd.bz.of rfl)
theorem Nd.bz.ov (s:Nd) (src p):s.bz (s.ov src p):=by
 unfold Nd.ov;repeat' split
 all_goals first|exact Nd.bz.of rfl|exact⟨[(_,_)],rfl⟩
theorem Nd.bz.brk (s:Nd) (nb):s.bz (s.brk nb):=by
 have h0:s.bz {s with ls:=nH nb s.ls}:=Nd.bz.of rfl;exact h0.trans (Nd.bz.lost _ _)
theorem Nd.bz.rep (s:Nd) (src p):s.bz (s.rep src p):=by
 unfold Nd.rep;split
 ·exact Nd.bz.of rfl
 ·simp only;split
  ·exact Nd.bz.of rfl
  ·split
   ·have h2:∀l:List Ln,s.bz (if(bR l p.dest s.now).isSome then Nd.flush {s with ls:=l} p.dest else {s with ls:=l}):=λl=>by
     have h0:s.bz {s with ls:=l}:=Nd.bz.of rfl;split
     ·exact h0.trans (Nd.bz.flush _ _)
     ·exact h0
    split
    ·exact(h2 _).trans (Nd.bz.of rfl)
    ·exact h2 _
   ·split
    ·split<;>exact Nd.bz.of rfl
    ·split
     ·exact Nd.bz.of rfl
     ·exact⟨[(_,_)],rfl⟩
theorem Nd.bz.handle (s:Nd) (src p):s.bz (s.handle src p):=by
 unfold Nd.handle;repeat' split
 ·exact Nd.bz.qd _ _ _
 ·exact Nd.bz.rep _ _ _
 ·exact Nd.bz.xC _ _ _
 ·exact Nd.bz.ov _ _ _
theorem Nd.bz.gQ (s:Nd) (now src f):s.bz (s.gQ now src f):=by
 unfold Nd.gQ;repeat' split
 all_goals first|exact Nd.bz.of rfl|exact⟨[(_,_)],rfl⟩
theorem Nd.bz.mb (s:Nd) (now src f):s.bz (s.mb now src f):=by
 unfold Nd.mb;split
 ·exact Nd.bz.gQ _ _ _ _
 ·split
  ·exact Nd.bz.gQ _ _ _ _
  ·exact Nd.bz.handle _ _ _
theorem Nd.bz.ea (s:Nd) (d t):s.bz (s.ea d t):=by
 rw[Nd.o6];split
 ·exact Nd.bz.hand _ _ _
 ·have h1:s.bz ((s.roomFor d).put d t):=Nd.bz.of (s.kM d).2.2.2.2.2.2.2.2.2.2.2.1;split
  ·exact h1
  ·have h2:((s.roomFor d).put d t).bz (((s.roomFor d).put d t).eC d):=Nd.bz.of rfl;exact(h1.trans h2).trans (Nd.bz.ask _ _ _)
def dS.PQ (o:dS):Prop:=∃l:List (UInt32×Pk),o.aJ=l.map λx=>(x.1,x.2.out)
theorem dS.PQ.le {o:dS} (h:o.PQ):∀f∈o.aJ,f.2.length<=100000:=by
 obtain⟨l,hl⟩:=h;intro f hf;rw[hl]at hf;obtain⟨x,_,rfl⟩:=HC.1 hf;exact Pk.Gf x.2
theorem Nd.bz.R9 {s t:Nd} {now} (h:(s.begin now).bz t):t.done.out.PQ:=by
 obtain⟨l,hl⟩:=h;obtain⟨_,_,_,_,_,_,_,e8,_⟩:=t.tD;exact⟨l,by rw[e8,hl,Nd.lk];rfl⟩
theorem Nd.Ir (s:Nd) (now):(s.iH now).out.PQ:=Nd.bz.R9 (Nd.bz.gT now _ _)
theorem Nd.KQ (s:Nd) (now src f):(s.iX now src f).out.PQ:=Nd.bz.R9 (Nd.bz.mb _ _ _ _)
theorem Nd.Jo (s:Nd) (now nb):(s.l7 now nb).out.PQ:=Nd.bz.R9 (Nd.bz.brk _ _)
theorem Nd.Ik (s:Nd) (now d t):(s.iG now d t).out.PQ:=Nd.bz.R9 (Nd.bz.ea _ _ _)
theorem Nd.ZP (s:Nd) (now nb):∀f∈(s.l7 now nb).out.aJ,f.1=0:=by
 obtain⟨_,_,_,_,_,_,_,e8,_⟩:=((s.begin now).brk nb).tD;unfold Nd.l7;rw[e8];unfold Nd.brk Nd.lost;split
 ·intro f hf;rw[show(Nd.send {s.begin now with ls:=nH nb (s.begin now).ls} 0 (Pk.gI (jh nb (aQ (aO (s.begin now).ls)) (s.begin now).ls))).out.aJ=(s.begin now).out.aJ++[(0,(Pk.gI (jh nb (aQ (aO (s.begin now).ls)) (s.begin now).ls)).out)]from rfl,Nd.lk]at hf;simp at hf;rw[hf]
 ·intro f hf;rw[show({s.begin now with ls:=nH nb (s.begin now).ls}:Nd).out.aJ=(s.begin now).out.aJ from rfl,Nd.lk]at hf;cases hf
def qg (J:cP) (n:Nd) (o:dS):Prop:=(if o.replace then []else J)++o.ay=b9 n.aI
theorem Bd (l m):b9 (l++m)=b9 l++b9 m:=by simp[b9]
theorem Nd.qh {s t:Nd} {now a b} (h:(s.begin now).Step t a b):qg (b9 s.aI) t.done t.done.out:=by
 have h0:=Nd.Step.note {s with now:=now,out:=dS.zero,ls:=mE now s.ls};have h1:=(h0.trans h).trans (Nd.Step.note t);have hr:=h1.MK;obtain⟨W,_,w2,w3⟩:=h1.wr;unfold qg Nd.done;split
 ·simp
 ·rw[hr,w2,w3];simp only[dS.zero,AT,VC,zF];rw[Bd]
theorem Nd.zed (self b now):qg b (Nd.new self b now) (Nd.gZ self b now):=by
 have h1:=(Nd.Step.write (Nd.bO self b now) ⟨true,0,(Nd.bO self b now).seq⟩).trans (Nd.Step.note _);obtain⟨W,_,w2,w3⟩:=h1.wr;have hb:(Nd.bO self b now).aI=[]/\(Nd.bO self b now).out.ay=[]:=by unfold Nd.bO;split<;>exact⟨rfl,rfl⟩
 rw[hb.1]at w2;rw[hb.2]at w3;have e:(Nd.gZ self b now).ay=(Nd.new self b now).out.ay:=rfl;unfold qg;rw[e];show(if(decide (0<b.length))=true then []else b)++(Nd.new self b now).out.ay=b9 (Nd.new self b now).aI;have e2:(if(decide (0<b.length))=true then []else b)=([]:cP):=by
  cases b with
  |nil=>rfl
  |cons x l=>rfl
 rw[e2,zF];unfold Nd.new;rw[w2,w3];rfl
theorem Jw {l} (h:l≠[]):cC l≠[]:=by
 obtain⟨m,r,rfl⟩:∃m r,l=m++[r]:=⟨l.dropLast,l.getLast h,(List.dropLast_concat_getLast h).symm⟩
 intro e;have h1:=lQ (m++[r]) r.norm.key;rw[e,lY,jF rfl]at h1;cases h1
theorem Nd.vO {s t:Nd} {now a b} (h:(s.begin now).Step t a b) (hn:s.aI≠[]):t.done.aI≠[]:=by
 have h0:=Nd.Step.note {s with now:=now,out:=dS.zero,ls:=mE now s.ls};obtain⟨W,_,w2,_⟩:=((h0.trans h).trans (Nd.Step.note t)).wr;have h1:t.note.aI≠[]:=by
  rw[w2];intro e;exact hn (uch.1 e).1
 unfold Nd.done;split
 ·exact Jw h1
 ·exact h1
theorem Nd.pC {s t:Nd} {now a b} (h:(s.begin now).Step t a b):t.done.self=s.self:=by
 rw[t.tD.1,h.self,Nd.DR]
structure Nd.Jc (s t:Nd) (c:Nat):Prop where
 rest:t.Rest c
 self:t.self=s.self
 qh:qg (b9 s.aI) t t.out
 ne:s.aI≠[]->t.aI≠[]
 R9:t.out.PQ
theorem Nd.Rest.Dx {s:Nd} {c} (h:s.Rest c) (hc:c<=8500) {now:UInt64} (hn:now.toNat<=4611686018427387904):s.Jc (s.iH now) (c+1):=by
 obtain⟨i,_,hT⟩:=Nd.sO (h.ready hc hn);exact⟨h.tick hc hn,Nd.pC hT.step,Nd.qh hT.step,Nd.vO hT.step,Nd.Ir _ _⟩
theorem Nd.Rest.wa {s:Nd} {c} (h:s.Rest c) (now src f):s.Jc (s.iX now src f) c:=by
 have hs:=Nd.Step.mb (h.inv.begin now) now src f;exact⟨h.mb _ _ _,Nd.pC hs,Nd.qh hs,Nd.vO hs,Nd.KQ _ _ _ _⟩
theorem Nd.Rest.GA {s:Nd} {c} (h:s.Rest c) (now nb):s.Jc (s.l7 now nb) c:=by
 have hs:=Nd.Step.brk (s.begin now) nb;exact⟨h.brk _ _,Nd.pC hs,Nd.qh hs,Nd.vO hs,Nd.Jo _ _ _⟩
theorem Nd.Rest.Dw {s:Nd} {c} (h:s.Rest c) {now:UInt64} (hn:now.toNat<=4611686018427387904) (d) (t:cP) (ht:t.length<=16):s.Jc (s.iG now d t) (c+1):=by
 have hs:=Nd.Step.ea (s.begin now) d t;exact⟨h.send hn d t ht,Nd.pC hs,Nd.qh hs,Nd.vO hs,Nd.Ik _ _ _ _⟩
theorem Nd.CM (self b now):(Nd.new self b now).self=self:=by
 rw[(Nd.xM self b now).self];unfold Nd.bO;split<;>rfl
theorem Nd.Kx (self b now):(Nd.new self b now).aI≠[]:=by
 obtain⟨W,_,w2,_⟩:=(Nd.Step.note ((Nd.bO self b now).write ⟨true,0,(Nd.bO self b now).seq⟩)).wr;show(Nd.note _).aI≠[];rw[w2];intro e;have:=(uch.1 e).1;simp[Nd.write]at this
theorem Nd.zcw (self b now):(Nd.gZ self b now).aJ=[]/\(Nd.gZ self b now).cj=[]/\(Nd.gZ self b now).dropped=[]:=by
 have m:=Nd.xM self b now;have hb:(Nd.bO self b now).out=dS.zero:=by unfold Nd.bO;split<;>rfl
 refine⟨?_,?_,?_⟩
 ·exact m.aJ.trans (by rw[hb];rfl)
 ·exact m.cj.trans (by rw[hb];rfl)
 ·exact m.dropped.trans (by rw[hb];rfl)
structure Zr.Sound (s:Zr) (c:Nat):Prop where
 node:∀n,s.node=some n->n.Rest c/\n.self=s.addr/\s.ay=b9 n.aI/\n.aI≠[]
 Yt:s.ay.length<=312
 Zw:0<=s.Zw/\s.Zw<=9223372036854775807
structure Zr.ZC (s:Zr) (o:dS) (c:Nat):Prop where
 node:∃n,s.node=some n/\n.Rest c/\n.self=s.addr/\qg s.ay n o/\n.aI≠[]
 Yt:s.ay.length<=312
 Zw:0<=s.Zw/\s.Zw<=9223372036854775807
theorem zdh {n:Nd} {c} (h:n.Rest c):(b9 n.aI).length<=312:=by
 rw[nT];have:=h.aI;omega
theorem Zr.ZC.wrote {s:Zr} {o c} (h:s.ZC o c):(s.write o).Sound c:=by
 obtain⟨n,h1,h2,h3,h4,h5⟩:=h.node;have hj:(s.write o).ay=b9 n.aI:=h4;refine⟨λm hm=> ?_,by rw[hj];exact zdh h2,h.Zw⟩;have xj:s.node=some m:=hm;rw[h1]at xj;cases xj;exact⟨h2,h3,hj,h5⟩
theorem Zr.ZC.ZH {s:Zr} {o c} (h:s.ZC o c):(s.ZH o).Sound c:=by
 obtain⟨n,h1,h2,h3,h4,h5⟩:=h.node;have h6:=zdh h2;unfold qg at h4;unfold Zr.ZH Zr.stop;refine⟨λm hm=>(by cases hm),?_,?_⟩
 ·split
  ·exact h.Yt
  ·rename_i hr;rw[eQ hr]at h4;rw[<-h4,pU]at h6;show(s.ay++s.part o).length<=312;unfold Zr.part;rw[pU,Aw];omega
 ·show 0<=Zr.Zw (if o.replace then s else {s with ay:=s.ay++s.part o})/\_;split<;>exact h.Zw
theorem Zr.ZC.quiet {s:Zr} {o:dS} {c} (h:s.ZC o c) (ho:o.ay=[]):s.Sound c:=by
 obtain⟨n,h1,h2,h3,h4,h5⟩:=h.node;unfold qg at h4;rw[ho,rL]at h4;have hj:s.ay=b9 n.aI:=by
  split at h4
  ·exfalso;have:=G2 List.length h4;rw[nT]at this;have h0:0<n.aI.length:=uaX.2 h5;simp at this;omega
  ·exact h4
 refine⟨λm hm=> ?_,h.Yt,h.Zw⟩;rw[h1]at hm;cases hm;exact⟨h2,h3,hj,h5⟩
theorem Zr.Sound.mono {s:Zr} {c d} (h:s.Sound c) (hd:c<=d):s.Sound d:=⟨λn hn=>⟨(h.node n hn).1.mono hd,(h.node n hn).2⟩,h.Yt,h.Zw⟩
theorem Zr.Sound.Z5 {s:Zr} {n t:Nd} {c d:Nat} (h:s.Sound c) (hn:s.node=some n) (hw:n.Jc t d):(s.run t).ZC t.out d:=by
 obtain⟨h1,h2,h3,h4⟩:=h.node n hn;refine⟨⟨t,rfl,hw.rest,hw.self.trans h2,?_,hw.ne h4⟩,h.Yt,h.Zw⟩;show qg s.ay t t.out;rw[h3];exact hw.qh
structure Ms.Zy (m:Ms):Prop where
 QG:m.Zx.length<=48
 each:∀f∈m.Zx,f.src<m.Zs.length/\f.dst<m.Zs.length/\f.bytes.length<=100000
theorem Ms.ZQ {m:Ms} {f x} (h:x∈(m.ZM f).Zx):x∈m.Zx\/x=f:=by
 have h':x∈m.Zx++[f]:=by
  unfold Ms.ZM at h;simp only at h;split at h
  ·exact(W8 _ _).subset h
  ·exact h
 rcases Lz.1 h' with h'|h'
 ·exact .inl h'
 ·simp at h';exact .inr h'
theorem Ms.Zy.ZM {m:Ms} (h:m.Zy) {f:Fl} (h1:f.src<m.Zs.length) (h2:f.dst<m.Zs.length) (h3:f.bytes.length<=100000):(m.ZM f).Zy:=by
 refine⟨?_,λx hx=> ?_⟩
 ·have hf:=h.QG;unfold Ms.ZM;simp only;split
  ·rw[NV];simp;omega
  ·rename_i hn;omega
 ·show x.src<m.Zs.length/\x.dst<m.Zs.length/\_;rcases Ms.ZQ hx with hx|rfl
  ·exact h.each x hx
  ·exact⟨h1,h2,h3⟩
structure Ms.Kept (m m':Ms) (i:Nat):Prop where
 now:m'.now=m.now
 Zu:m'.Zu=m.Zu
 ZO:m'.Zs.map (·.addr)=m.Zs.map (·.addr)
 other:∀k,k≠i->m'.Zs[k]? =m.Zs[k]?
theorem Ms.Kept.PA (m:Ms) (i):m.Kept m i:=⟨rfl,rfl,rfl,λ_ _=>rfl⟩
theorem Ms.Kept.trans {m m1 m2:Ms} {i:Nat} (h:m.Kept m1 i) (k:m1.Kept m2 i):m.Kept m2 i:=⟨k.now.trans h.now,k.Zu.trans h.Zu,k.ZO.trans h.ZO,λj hj=>(k.other j hj).trans (h.other j hj)⟩
theorem Ms.Kept.length {m m':Ms} {i} (h:m.Kept m' i):m'.Zs.length=m.Zs.length:=by
 have:=G2 List.length h.ZO;simpa using this
theorem Ms.Kept.mod {m:Ms} {i f} (hf:∀s,(f s).addr=s.addr):m.Kept (m.mod i f) i:=by
 refine⟨rfl,rfl,?_,λk hk=> ?_⟩
 ·show(m.Zs.modify i f).map (·.addr)=_;apply zD;intro k;rw[zA,uab,zA];cases m.Zs[k]? with
  |none=>rfl
  |some s=>simp only[Option.map_eq_map,EL];split<;>simp[hf]
 ·show(m.Zs.modify i f)[k]? =_;rw[uab];cases m.Zs[k]? with
  |none=>rfl
  |some s=>simp[uaT hk]
theorem Ms.ZJ {m:Ms} {i f s} (h:m.Zs[i]? =some s):(m.mod i f).Zs[i]? =some (f s):=by
 show(m.Zs.modify i f)[i]? =_;rw[uab,h];simp
theorem Ms.Kept.event (m:Ms) (e i):m.Kept (m.event e) i:=⟨rfl,rfl,rfl,λ_ _=>rfl⟩
theorem Ms.Kept.ZM (m:Ms) (f i):m.Kept (m.ZM f) i:=⟨rfl,rfl,rfl,λ_ _=>rfl⟩
theorem Zr.ZN (s:Zr) (o):(s.ZH o).addr=s.addr:=by
 unfold Zr.ZH Zr.stop;split<;>rfl
theorem Ms.Zz {m:Ms} {i:Nat} {b:cP} (hi:i<m.Zs.length) (hb:b.length<=100000):∀k,k<=m.Zs.length->(Ms.Zt i b k m).Zs=m.Zs/\(Ms.Zt i b k m).now=m.now/\(Ms.Zt i b k m).Zu=m.Zu/\(Ms.Zt i b k m).mU=m.mU/\(m.Zy->(Ms.Zt i b k m).Zy)
 |0,_=>⟨rfl,rfl,rfl,rfl,λh=>h⟩
 |k+1,hk=>by
  obtain⟨h1,h2,h3,h4,h5⟩:=Ms.Zz (m:=m) (i:=i) (b:=b) hi hb k (by omega);unfold Ms.Zt;split
  ·refine⟨h1,h2,h3,h4,λh=>(h5 h).ZM ?_ ?_ hb⟩
   ·show i<(Ms.Zt i b k m).Zs.length;rw[h1];exact hi
   ·show k<(Ms.Zt i b k m).Zs.length;rw[h1];omega
  ·exact⟨h1,h2,h3,h4,h5⟩
theorem ZE:∀{Zs:List Zr} {a:UInt32} {j:Nat},Zv Zs a=some j->∃s,Zs[j]? =some s/\s.addr=a
 |[],_,_,h=>by cases h
 |s::r,a,j,h=>by
  simp only[Zv]at h;split at h
  ·rename_i e;cases h;exact⟨s,rfl,e⟩
  ·cases hr:Zv r a with
   |none=>rw[hr]at h;cases h
   |some k=>rw[hr]at h;cases h;obtain⟨s',h1,h2⟩:=ZE hr;exact⟨s',by simpa using h1,h2⟩
structure Ms.ZG (m m':Ms) (i c:Nat) (n:Nat):Prop where
 kept:m.Kept m' i
 here:∃s,m'.Zs[i]? =some s/\s.Sound c
 Zx:m.Zy->m'.Zy
 mU:m'.mU.length<=m.mU.length+n
theorem Ms.ZG.frame {sub} {m:Ms} {i c n} {s:Zr} (hs:m.Zs[i]? =some s) (Hq:s.Sound c) (f) (hf:f.2.length<=100000) (ow:f.1≠0->∀t:Nd,s.node=some t->m.ZG (sub (m.mod i (·.run (t.l7 m.now f.1))) (t.l7 m.now f.1).out) i c n):m.ZG (Ms.ZB sub i m f) i c n:=by
 have hi:=(az.1 hs).1;unfold Ms.ZB;split
 ·obtain⟨h1,h2,h3,h4,h5⟩:=Ms.Zz hi hf m.Zs.length (uL _);exact⟨⟨h2,h3,by rw[h1],λk _=>by rw[h1]⟩,⟨s,by rw[h1];exact hs,Hq⟩,h5,by rw[h4];omega⟩
 ·rename_i hto;split
  ·rename_i Z7;cases jf:Zv m.Zs f.1 with
   |none=>rw[jf]at Z7;cases Z7
   |some j=>
    obtain⟨s',h1,_⟩:=ZE jf;refine⟨Ms.Kept.ZM _ _ _,⟨s,hs,Hq⟩,λh=>h.ZM hi ?_ hf,ubK _ _⟩;exact(az.1 h1).1
  ·rw[hs];simp only[G6];cases hn:s.node with
   |none=>exact⟨Ms.Kept.PA _ _,⟨s,hs,Hq⟩,λh=>h,ubK _ _⟩
   |some t=>exact ow hto t hn
theorem Ms.ZG.ZA {sub} {m:Ms} {i c n} {o:dS} {s:Zr} (hs:m.Zs[i]? =some s) (Hq:s.ZC o c) (hf:∀f∈o.aJ,f.2.length<=100000) (ow:∀f∈o.aJ,f.1≠0->∀(m':Ms) (s':Zr) (t:Nd),m.Kept m' i->m'.Zs[i]? =some s'->s'.Sound c->s'.node=some t->m'.ZG (sub (m'.mod i (·.run (t.l7 m'.now f.1))) (t.l7 m'.now f.1).out) i c n):m.ZG (Ms.ZA sub i m o) i c (1+o.aJ.length*n):=by
 unfold Ms.ZA;split
 ·rename_i ho;have hj:o.ay=[]:=by
   unfold dS.none at ho;simp only[Ps,ubL]at ho;exact ho.1.1.1
  exact⟨Ms.Kept.PA _ _,⟨s,hs,Hq.quiet hj⟩,λh=>h,by omega⟩
 ·rw[hs];simp only;split
  ·refine⟨(Ms.Kept.mod λs=>Zr.ZN s o).trans (Ms.Kept.event _ _ _),⟨s.ZH o,Ms.ZJ hs,Hq.ZH⟩,λh=>⟨h.QG,λf hf=> ?_⟩,?_⟩
   ·exact pbq
   ·show(m.mU++[_]).length<=_;simp
  ·have key:∀(l:List (UInt32×cP)) (m':Ms),(∀f∈l,f∈o.aJ)->m.Kept m' i->(∃s',m'.Zs[i]? =some s'/\s'.Sound c)->m'.ZG (l.foldl (Ms.ZB sub i) m') i c (l.length*n):=by
    intro l;induction l with
    |nil=>intro m' _ _ ⟨s',h1,h2⟩;exact⟨Ms.Kept.PA _ _,⟨s',h1,h2⟩,λh=>h,by simp⟩
    |cons f l ih=>
     intro m' hl hk ⟨s',h1,h2⟩;have Hj:=hl f (by simp);have h3:=Ms.ZG.frame (n:=n) h1 h2 f (hf f Hj) λhz t ht=>ow f Hj hz m' s' t hk h1 h2 ht;have h4:=ih (Ms.ZB sub i m' f) (λx hx=>hl x (by simp[hx])) (hk.trans h3.kept) h3.here;rw[Uq];exact⟨h3.kept.trans h4.kept,h4.here,λh=>h4.Zx (h3.Zx h),by have:=h3.mU;have:=h4.mU;rw[Pr,uar];omega⟩
   have h0:m.Kept ((m.mod i (·.write o)).event ⟨i,0,o⟩) i:=(Ms.Kept.mod (f:=λx=>x.write o) λs=>rfl).trans (Ms.Kept.event _ _ _);have h1:=key o.aJ _ (λf hf=>hf) h0 ⟨s.write o,Ms.ZJ hs,Hq.wrote⟩;refine⟨h0.trans h1.kept,h1.here,λh=>h1.Zx ⟨h.QG,λf hf=> ?_⟩,?_⟩
   ·exact pbq
   ·have:=h1.mU;have e:((m.mod i (·.write o)).event ⟨i,0,o⟩).mU.length=m.mU.length+1:=by show(m.mU++[_]).length=_;simp
    omega
theorem Ms.ZG.ZD {m:Ms} {i c} {o:dS} {s:Zr} (hs:m.Zs[i]? =some s) (Hq:s.ZC o c) (hf:∀f∈o.aJ,f.2.length<=100000) (h0:∀f∈o.aJ,f.1=0):m.ZG (Ms.ZD i m o) i c 1:=by
 have:=Ms.ZG.ZA (sub:=λm _=>m) (n:=0) hs Hq hf (λf hf hz=>absurd (h0 f hf) hz);simpa [Ms.ZD]using this
theorem Ms.ZG.run {m m':Ms} {i c n t} (h:(m.mod i (·.run t)).ZG m' i c n):m.ZG m' i c n:=by
 have hk:m.Kept (m.mod i (·.run t)) i:=Ms.Kept.mod (f:=λx=>x.run t) λs=>rfl;refine⟨hk.trans h.kept,h.here,λha=>h.Zx ⟨ha.QG,λf hf=> ?_⟩,h.mU⟩;have:=ha.each f hf;rw[hk.length];exact this
theorem Ms.ZG.emit {m:Ms} {i c} {o:dS} {s:Zr} (hs:m.Zs[i]? =some s) (Hq:s.ZC o c) (hf:∀f∈o.aJ,f.2.length<=100000):m.ZG (Ms.emit i m o) i c (1+o.aJ.length):=by
 have:=Ms.ZG.ZA (sub:=Ms.ZD i) (n:=1) hs Hq hf (λf hf hz m' s' t _ h1 h2 ht=>by
  have hw:=(h2.node t ht).1.GA m'.now f.1
  exact Ms.ZG.run (Ms.ZG.ZD (Ms.ZJ h1) (h2.Z5 ht hw) hw.R9.le (Nd.ZP _ _ _)))
 simpa [Ms.emit]using this
end
end Go.Proofs.YtapoehkdnglahabGreat
