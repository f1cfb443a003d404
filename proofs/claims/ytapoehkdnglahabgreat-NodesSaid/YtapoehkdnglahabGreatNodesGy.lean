/- A part of what Nodes needs. -/
import Derived.Test.YtapoehkdnglahabGreatNodesGx
set_option maxHeartbeats 32000000
set_option maxRecDepth 100000
set_option linter.unusedVariables false
set_option linter.unusedSimpArgs false
set_option linter.unusedSectionVars false
namespace Go.Proofs.YtapoehkdnglahabGreat
section
open Go.RowKit
attribute [local irreducible] WS LS cD eM cn cv Spec bA aK di cq
variable (w0:World)
theorem Fe (n i0 gn:Nat) (s:Nd) (now:UInt64) {c:Nat} (hr:s.Rest c) (hc:c≤8500) (vT:now.toNat≤4611686018427387904) (hn:s.now.toNat≤now.toNat) (X1:n≤90000) (uY:i0≤800000) (F7:s.bu.length≤90000):Spec Tryz.prog w0 49 [ptr gn 0,u64 now] (j9 ⟨n,none,i0⟩ gn s) (fun v:Value×Value×Value=>fp (s.iH now).out v) (fun v=>j9 ⟨n,none,i0+5⟩ gn (s.iH now)*ei (s.iH now).out v):=by
 have hR:=hr.ready hc vT
 have p1:=mv w0 ⟨n,none,i0⟩ gn s hr.inv.dp.dp (by have:=hr.aI;omega) now hn
 have W3:=(s.fM now).2.2.2.2.2
 have g3:=Nd.fL s now hr.inv.dp.dp
 have g4:=Nd.fK s now hr.inv.dp.dp
 have g5:=hr.aI
 refine Spec.enter Tryz.func49 rfl Tryz.ntmps49 rfl fun G=> ?_
 simp only[aN]
 unfold Nd.iH Nd.tick
 generalize s.begin now=s1 at*
 repeat' (first|(refine ab ?_;intro K hK)|(refine hK _ ?_;clear hK K)|refine ax ?_|refine az ?_|(refine bT ?_;intro g)|(refine ai (aa iI rfl p1 iI) rfl ?_;intro x1))
 refine aV (fun kk τ=>∃(t:Nd) (f j:Nat),iq now t.bI=kk∧iq now t.bI<f∧s1.DH t now j∧t.bu.length≤90000∧t.gT f now=s1.gT (iq now s1.bI+1) now∧τ=⟨[(4,ptr g 0),(1,u64 now),(0,ptr gn 0)],[],qe ⟨n,none,i0+5⟩ gn t*(aK g 35 [aZ [],.bool false,.slice none 0 0,.slice none 0 0,.slice none 0 0]*G)⟩) ?_ ?_
 ·exact⟨iq now s1.bI,_,⟨s1,_,0,rfl,Nat.lt_succ_self _,Nd.DH.zero hR,by rw[W3];exact F7,rfl,rfl⟩,cG,rfl,ah⟩
 rintro kk τ ⟨t,f,j,u6,hf,J8,O5,gK,rfl⟩
 refine rz (W:=⟨n,none,i0+5⟩) (g:=gn) (s:=t) iI fun d tw=> ?_
 have Lw:=tw.hP
 unfold cR bc cc
 simp only[bN,ad]
 repeat' (first|(refine ab ?_;intro K hK)|(refine hK _ ?_;clear hK K)|refine ax ?_|refine az ?_)
 refine aV (fun xx τ=>∃i:Nat,i+xx=d.search.length∧τ=⟨[(6,.int .i64 (i:Int)),(5,.int .i64 (qc (fF d.search now i))),(4,ptr g 0),(1,u64 now),(0,ptr gn 0)],[],cR gn t d*(aK g 35 [aZ [],.bool false,.slice none 0 0,.slice none 0 0,.slice none 0 0]*G)⟩) ?_ ?_
 ·exact⟨d.search.length,_,⟨0,by omega,rfl⟩,cG,rfl,by unfold cR bc cc;simp only[bN];exact ah⟩
 rintro xx τ ⟨i,qE,rfl⟩
 unfold cR bc cc
 simp only[bN,ad]
 rcases Nat.lt_or_ge i d.search.length with h|h
 ·have h1:(i:Int)<(d.search.length:Int):=by omega
  obtain⟨z,hz⟩:∃z,d.search[i]? =some z:=⟨_,List.getElem?_eq_getElem h⟩
  have Kg:=o8 hz
  cases hb:fF d.search now i with
  |none=>
   simp only[qc]
   by_cases hd:z.due≤now
   ·have hx:fF d.search now (i+1)=some i:=by simp only[fF,hb,Kg,if_pos hd]
    repeat' (first|refine ag (id:=7) (.range 47) ?_|(refine ab ?_;intro K hK)|(refine hK _ ?_;clear hK K)|refine ax ?_|(refine aF ?_ ?_<;>intro hc<;>(try simp only[cS]at hc)<;>(try exact aG))|refine aX ?_|refine az ?_|(refine bT ?_;intro g)|((refine' bL ?zh ?_);(case zh=>exact bo rfl rfl iI iI (by first|rfl|(simp only[List.all_cons,List.all_nil, *];rfl)) rfl);intro g)|fail)
    exact⟨xx - 1,_,by omega,⟨i+1,by omega,rfl⟩,⟨rfl,by rw[hx];rfl,rfl,rfl,rfl,trivial⟩,rfl,by simp only[bN];exact ah⟩
   ·have hx:fF d.search now (i+1)=none:=by simp only[fF,hb,Kg,if_neg hd]
    repeat' (first|refine ag (id:=7) (.range 47) ?_|(refine ab ?_;intro K hK)|(refine hK _ ?_;clear hK K)|refine ax ?_|(refine aF ?_ ?_<;>intro hc<;>(try simp only[cS]at hc)<;>(try exact aG))|refine aX ?_|refine az ?_|(refine bT ?_;intro g)|((refine' bL ?zh ?_);(case zh=>exact bo rfl rfl iI iI (by first|rfl|(simp only[List.all_cons,List.all_nil, *];rfl)) rfl);intro g)|fail)
    exact⟨xx - 1,_,by omega,⟨i+1,by omega,rfl⟩,⟨rfl,by rw[hx];rfl,rfl,rfl,rfl,trivial⟩,rfl,by simp only[bN];exact ah⟩
  |some b=>
   simp only[qc]
   have yl:=(nG hb).1
   obtain⟨y,hy⟩:∃y,d.search[b]? =some y:=⟨_,List.getElem?_eq_getElem (by omega)⟩
   have Nt:=o8 hy
   by_cases hd:z.due≤now
   ·by_cases bW:z.due<y.due
    ·have hx:fF d.search now (i+1)=some i:=by simp only[fF,hb,Kg,Nt];rw[if_pos ⟨hd,.inl bW⟩]
     repeat' (first|refine ag (id:=7) (.range 47) ?_|(refine ab ?_;intro K hK)|(refine hK _ ?_;clear hK K)|refine ax ?_|(refine aF ?_ ?_<;>intro hc<;>(try simp only[cS]at hc)<;>(try exact aG))|refine aX ?_|refine az ?_|(refine bT ?_;intro g)|((refine' bL ?zh ?_);(case zh=>exact bo rfl rfl iI iI (by first|rfl|(simp only[List.all_cons,List.all_nil, *];rfl)) rfl);intro g)|fail)
     exact⟨xx - 1,_,by omega,⟨i+1,by omega,rfl⟩,⟨rfl,by rw[hx];rfl,rfl,rfl,rfl,trivial⟩,rfl,by simp only[bN];exact ah⟩
    ·by_cases heq:z.due=y.due
     ·by_cases jf:z.set<y.set
      ·have hx:fF d.search now (i+1)=some i:=by simp only[fF,hb,Kg,Nt];rw[if_pos ⟨hd,.inr ⟨heq,jf⟩⟩]
       repeat' (first|refine ag (id:=7) (.range 47) ?_|(refine ab ?_;intro K hK)|(refine hK _ ?_;clear hK K)|refine ax ?_|(refine aF ?_ ?_<;>intro hc<;>(try simp only[cS]at hc)<;>(try exact aG))|refine aX ?_|refine az ?_|(refine bT ?_;intro g)|((refine' bL ?zh ?_);(case zh=>exact bo rfl rfl iI iI (by first|rfl|(simp only[List.all_cons,List.all_nil, *];rfl)) rfl);intro g)|fail)
       exact⟨xx - 1,_,by omega,⟨i+1,by omega,rfl⟩,⟨rfl,by rw[hx];rfl,rfl,rfl,rfl,trivial⟩,rfl,by simp only[bN];exact ah⟩
      ·have hx:fF d.search now (i+1)=some b:=by simp only[fF,hb,Kg,Nt];rw[if_neg (fun e=>e.2.elim bW fun e=>jf e.2)]
       repeat' (first|refine ag (id:=7) (.range 47) ?_|(refine ab ?_;intro K hK)|(refine hK _ ?_;clear hK K)|refine ax ?_|(refine aF ?_ ?_<;>intro hc<;>(try simp only[cS]at hc)<;>(try exact aG))|refine aX ?_|refine az ?_|(refine bT ?_;intro g)|((refine' bL ?zh ?_);(case zh=>exact bo rfl rfl iI iI (by first|rfl|(simp only[List.all_cons,List.all_nil, *];rfl)) rfl);intro g)|fail)
       exact⟨xx - 1,_,by omega,⟨i+1,by omega,rfl⟩,⟨rfl,by rw[hx];rfl,rfl,rfl,rfl,trivial⟩,rfl,by simp only[bN];exact ah⟩
     ·have hx:fF d.search now (i+1)=some b:=by simp only[fF,hb,Kg,Nt];rw[if_neg (fun e=>e.2.elim bW fun e=>heq e.1)]
      repeat' (first|refine ag (id:=7) (.range 47) ?_|(refine ab ?_;intro K hK)|(refine hK _ ?_;clear hK K)|refine ax ?_|(refine aF ?_ ?_<;>intro hc<;>(try simp only[cS]at hc)<;>(try exact aG))|refine aX ?_|refine az ?_|(refine bT ?_;intro g)|((refine' bL ?zh ?_);(case zh=>exact bo rfl rfl iI iI (by first|rfl|(simp only[List.all_cons,List.all_nil, *];rfl)) rfl);intro g)|fail)
      exact⟨xx - 1,_,by omega,⟨i+1,by omega,rfl⟩,⟨rfl,by rw[hx];rfl,rfl,rfl,rfl,trivial⟩,rfl,by simp only[bN];exact ah⟩
   ·have hx:fF d.search now (i+1)=some b:=by simp only[fF,hb,Kg,Nt];rw[if_neg (fun e=>hd e.1)]
    repeat' (first|refine ag (id:=7) (.range 47) ?_|(refine ab ?_;intro K hK)|(refine hK _ ?_;clear hK K)|refine ax ?_|(refine aF ?_ ?_<;>intro hc<;>(try simp only[cS]at hc)<;>(try exact aG))|refine aX ?_|refine az ?_|(refine bT ?_;intro g)|((refine' bL ?zh ?_);(case zh=>exact bo rfl rfl iI iI (by first|rfl|(simp only[List.all_cons,List.all_nil, *];rfl)) rfl);intro g)|fail)
    exact⟨xx - 1,_,by omega,⟨i+1,by omega,rfl⟩,⟨rfl,by rw[hx];rfl,rfl,rfl,rfl,trivial⟩,rfl,by simp only[bN];exact ah⟩
 have h1:¬(i:Int)<(d.search.length:Int):=by omega
 obtain rfl:i=d.search.length:=by omega
 clear qE
 obtain⟨f',c2,j',LC,run',Y6,hle,Rz,JR⟩:=Twin.skip vT f t j tw J8 hf
 have P3:iq now c2+j'=iq now s1.bI:=run'.due
 have Y9:=Av now s1.bI
 have Dy:=hR.bI
 have q1:=run'.step.aI
 have q2:=run'.step.ay
 have q3:=run'.step.aJ
 have q4:=run'.step.cj
 have q5:=run'.step.dropped
 have q6:=hR.aI;have q7:=hR.ay;have q8:=hR.aJ;have q9:=hR.cj;have Ve:=hR.dropped
 have r1:=run'.last;have r2:=hR.last
 simp only at q1 q2 q3 q4 q5 r1
 rcases JR with hN|⟨i2,k,x,hb,hk,hx,Hs⟩
 ·have JQ:fF d.search now d.search.length=none:=LC.idle hN
  rw[JQ]
  simp only[qc]
  have ef:Nd.gT f' {t with bI:=c2} now={t with bI:=c2}:=by
   cases f' with
   |zero=>rfl
   |succ q=>
    have e0:Nd.step {t with bI:=c2} now=none:=by unfold Nd.step;rw[show gN ({t with bI:=c2}:Nd).bI now ({t with bI:=c2}:Nd).bI.length=none from hN]
    unfold Nd.gT
    rw[e0]
  have eF:s1.gT (iq now s1.bI+1) now={t with bI:=c2}:=gK.symm.trans (Rz.trans ef)
  have p9:=Spec.nV LC (nS w0 ⟨n,none,i0+5⟩ gn {t with bI:=c2} run'.inv.dp.dp (by show t.aI.length≤_;omega) (by show t.out.ay.length≤_;omega))
  generalize Ho:({t with bI:=c2}:Nd).done=s9 at p9
  unfold cR bc cc at p9
  simp only[bN,ad,fp,ei]at p9
  repeat' (first|(refine ab ?_;intro K hK)|(refine hK _ ?_;clear hK K)|refine ax ?_|(refine aF ?_ ?_<;>intro hc<;>(try simp only[cS]at hc)<;>(try exact aG))|refine aX ?_|refine az ?_|(refine bQ ?_;intro g)|(refine ai (aa iI rfl p9 iI) rfl ?_;intro x9))
  exact gD (.inl rfl) rfl (aS rfl iI iI rfl) ⟨x9,by rw[eF,Ho];rfl,by rw[eF,Ho];simp only[ei];exact ah⟩
 ·have zu:c2[i2]? =some (cJ c2 i2):=hZ (iz hb).1
  have Rk:fF d.search now d.search.length=some k:=LC.pick run'.inv.sr hb hx Hs
  rw[Rk]
  simp only[qc]
  have WH:=LC.KJ zu
  rw[←Hs]at WH
  have Tz:Nd.step {t with bI:=c2} now=some (Nd.again {t with bI:=c2.eraseIdx i2} k x):=by
   unfold Nd.step
   rw[show gN ({t with bI:=c2}:Nd).bI now ({t with bI:=c2}:Nd).bI.length=some i2 from hb]
   simp only
   rw[hk]
   simp only
   rw[hx]
  have rf:=run'.inv.sr.each x (List.mem_of_getElem? hx)
  have Cm:=gS run'.inv x.dest
  have Yh:(Nd.texts {t with bI:=c2.eraseIdx i2} x.dest).length≤4:=Cm.1
  have J4:t.now=now:=run'.AX
  have p5:=Spec.nV WH (H0 w0 n (i0+5) gn {t with bI:=c2.eraseIdx i2} k x hx ⟨rf.1,rf.2.1,rf.2.2.1,rf.2.2.2.1⟩ ⟨run'.inv.sr.aO,run'.inv.sr.names,run'.inv.sr.each⟩ run'.inv.dp.dp run'.inv.order ⟨by show 0≤t.last;omega,by show t.last≤_;omega⟩ (by show t.now.toNat≤_;rw[J4];exact vT) (by omega) (by omega) (by show t.bu.length≤_;omega) (fun u hu=>by have:=Cm.2 u hu;omega) ⟨by show t.out.aJ.length+_≤_;omega,by show t.out.cj.length+_≤_;omega,by show t.out.dropped.length+_≤_;omega,by show t.aI.length+_≤_;omega,by show t.out.ay.length+_≤_;omega⟩)
  have jf:=Nd.nu Tz run'.inv run'.sw run'.AX vT
  have sX:iq now (Nd.again {t with bI:=c2.eraseIdx i2} k x).bI+1=iq now c2:=jf.due
  have Xq:=Nd.GS {t with bI:=c2.eraseIdx i2} k x
  simp only at Xq
  have Wg:=run'.next Tz vT
  obtain⟨f9,rfl⟩:∃f9,f'=f9+1:=⟨f' - 1,by omega⟩
  have UJ:Nd.gT f9 (Nd.again {t with bI:=c2.eraseIdx i2} k x) now=s1.gT (iq now s1.bI+1) now:=by
   rw[←gK,Rz]
   show _=(match Nd.step {t with bI:=c2} now with|some u=>u.gT f9 now|none=>_)
   rw[Tz]
  generalize Nd.again {t with bI:=c2.eraseIdx i2} k x=u at*
  unfold cR bc cc at p5
  simp only[bN,ad]at p5
  repeat' (first|(refine ab ?_;intro K hK)|(refine hK _ ?_;clear hK K)|refine ax ?_|(refine aF ?_ ?_<;>intro hc<;>(try simp only[cS]at hc)<;>(try exact aG))|refine aX ?_|refine az ?_|(refine ai (aa iI rfl p5 iI) rfl ?_;intro u5))
  exact⟨_,_,by omega,⟨u,f9,j'+1,rfl,by omega,Wg,by omega,UJ,rfl⟩,cG,rfl,ah⟩
end
section
open Go.RowKit
attribute [local irreducible] WS LS cD eM cn cv Spec bA aK di cq
variable (w0:World)
theorem Bh (W:TW) (gn:Nat) (s:Nd) (now:UInt64) (dst:UInt32) (t:cP) (he:s.gA dst t≠0):Spec Tryz.prog w0 82 [ptr gn 0,u64 now,u32 dst,aZ t] (j9 W gn s) (fun _:Unit=> .tuple #[xQ,.int .i64 (s.gA dst t)]) (fun _=>j9 W gn s):=by
 refine Spec.enter Tryz.func82 rfl Tryz.ntmps82 rfl fun G=> ?_
 refine wB (W:=W) (g:=gn) (s:=s) iI fun d o tw=> ?_
 simp only[aN,bN]
 unfold Nd.gA at he ⊢
 by_cases ht:16<t.length
 ·rw[if_pos ht]
  have O5:(16:Int)<(t.length:Int):=by omega
  repeat' (first|(refine ab ?_;intro K hK)|(refine hK _ ?_;clear hK K)|refine ax ?_|(refine aF ?_ ?_<;>intro hc<;>(try simp only[cS]at hc)<;>(try exact aG))|refine aX ?_|refine az ?_|(refine bT ?_;intro g)|(refine bQ ?_;intro g))
  exact dF (.inl rfl) rfl (aS rfl iI iI rfl) (bh rfl) ⟨(),rfl,by refine aq.j9 o tw ?_;simp only[bN];exact ah⟩
 ·rw[if_neg ht]at he ⊢
  have O5:¬(16:Int)<(t.length:Int):=by omega
  by_cases h1:dst=s.self
  ·rw[if_pos (.inl h1)]
   repeat' (first|(refine ab ?_;intro K hK)|(refine hK _ ?_;clear hK K)|refine ax ?_|(refine aF ?_ ?_<;>intro hc<;>(try simp only[cS]at hc)<;>(try exact aG))|refine aX ?_|refine az ?_|(refine bT ?_;intro g)|(refine bQ ?_;intro g))
   exact dF (.inl rfl) rfl (aS rfl iI iI rfl) (bh rfl) ⟨(),rfl,by refine aq.j9 o tw ?_;simp only[bN];exact ah⟩
  by_cases h2:dst=0
  ·rw[if_pos (.inr h2)]
   repeat' (first|(refine ab ?_;intro K hK)|(refine hK _ ?_;clear hK K)|refine ax ?_|(refine aF ?_ ?_<;>intro hc<;>(try simp only[cS]at hc)<;>(try exact aG))|refine aX ?_|refine az ?_|(refine bT ?_;intro g)|(refine bQ ?_;intro g))
   exact dF (.inl rfl) rfl (aS rfl iI iI rfl) (bh rfl) ⟨(),rfl,by refine aq.j9 o tw ?_;simp only[bN];exact ah⟩
  ·exact absurd (if_neg (by rintro(e|e);exact h1 e;exact h2 e)) he
end
section
open Go.RowKit
theorem nd {α:Type} [DecidableEq α]:∀(l m:List α),l.Nodup→(∀x∈l,x∈m)→l.length≤m.length
 |[],_,_,_=>Nat.zero_le _
 |x::l,m,h,hs=>by
  have h1:=List.nodup_cons.1 h
  have h2:=nd l (m.erase x) h1.2 fun y hy=>(List.mem_erase_of_ne (fun e=>h1.1 (by rw[←e];exact hy))).2 (hs y (by simp[hy]))
  rw[List.length_erase_of_mem (hs x (by simp))]at h2
  have:0<m.length:=List.length_pos_of_mem (hs x (by simp))
  simp only[List.length_cons]
  omega
theorem Twin.QG {n i0:Nat} {s:Nd} {d:RD} (h:Twin ⟨n,none,i0⟩ s d) (so:l6 s):s.bu.length≤s.bI.length:=by
 have:=nd (s.bu.map (·.name)) (s.bI.map (·.km)) so.names fun x hx=>by
  obtain⟨y,hy,rfl⟩:=List.mem_map.1 hx
  obtain⟨i,hi,e⟩:=List.getElem_of_mem hy
  have h1:s.bu[i]? =some y:=by rw[List.getElem?_eq_getElem hi,e]
  obtain⟨z,hz⟩:∃z,d.search[i]? =some z:=⟨_,List.getElem?_eq_getElem (by rw[h.hP];exact hi)⟩
  obtain⟨due,set,_,h2|h2⟩:=h.search i y z h1 hz
  ·cases h2
  ·exact List.mem_map.2 ⟨_,h2,rfl⟩
 simpa using this
theorem Spec.QG {P:Program} {w0:World} {f:FuncId} {args:List Value} {n i0 g:Nat} {s:Nd} {c:Nat} (hr:s.Rest c) {α:Type} {res:α→Value} {post:α→af} (h:s.bu.length≤c→Spec P w0 f args (j9 ⟨n,none,i0⟩ g s) res post):Spec P w0 f args (j9 ⟨n,none,i0⟩ g s) res post:=fun G w hs=>by
 have sZ:=hs
 unfold j9 at sZ
 obtain⟨x,fP⟩:=sZ.ex
 obtain⟨tw,_⟩:=(fP.cast (ad _ _ _)).pure
 have h1:=tw.QG hr.inv.sr
 have h2:=hr.bI
 exact h (by omega) G w hs
theorem zf {n n' i0 O9 g:Nat} {s:Nd} (hn:n≤n') (hi:i0≤O9):aq (j9 ⟨n,none,i0⟩ g s) (j9 ⟨n',none,O9⟩ g s):=by
 unfold j9
 refine aq.Q0 fun x=>aq.Nz fun tw=> ?_
 have lD:=tw.mono (W':=⟨n',none,O9⟩) rfl hn hi
 have h:=aq.mX (p:=fun x:RD×dS=>pure' (Twin ⟨n',none,O9⟩ s x.1)*(aK g 195 (bN s x.1 x.2)*(rows 28 3 Rec.cells x.1.vr s.aI*(rows 28 3 Rec.cells x.1.vh x.1.held*(ct x.1.tb s.self s.ls*bc x.1))))) (F:=emp) x (aq.of_eq bl.symm)
 rw[bl]at h
 refine aq.trans ?_ h
 have h3:=aq.ji (F:=aK g 195 (bN s x.1 x.2)*(rows 28 3 Rec.cells x.1.vr s.aI*(rows 28 3 Rec.cells x.1.vh x.1.held*(ct x.1.tb s.self s.ls*bc x.1)))) lD (aq.refl _)
 exact h3
theorem oN {n n' i0 O9 g:Nat} {s:Nd} (hn:n≤n') (hi:i0≤O9) (F:af):aq (j9 ⟨n,none,i0⟩ g s*F) (j9 ⟨n',none,O9⟩ g s*F):=aq.star (zf hn hi) (aq.refl F)
variable (w0:World)
theorem NK (n i0 gn:Nat) (s:Nd) (now:UInt64) (src:UInt32) (f:cP) {c:Nat} (hr:s.Rest c) (hc:c≤8500) (hn:s.now.toNat≤now.toNat) (zp:f.length≤100000) (hW:n≤80000):Spec Tryz.prog w0 78 [ptr gn 0,u64 now,u32 src,aZ f] (j9 ⟨n,none,i0⟩ gn s) (fun v:Value×Value×Value=>fp (s.iX now src f).out v) (fun v=>j9 ⟨n+1,none,i0+5⟩ gn (s.iX now src f)*ei (s.iX now src f).out v):=
 Spec.QG hr fun hs=>(Ie w0 ⟨n,none,i0⟩ gn s now src f hr hn zp (by show n≤100000;omega) (by omega)).ob (aq.refl _) fun v=>⟨v,rfl,oN (Nat.le_succ n) (Nat.le_refl _) _⟩
theorem Sb (n i0 gn:Nat) (s:Nd) (now:UInt64) (nb:UInt32) {c:Nat} (hr:s.Rest c) (hn:s.now.toNat≤now.toNat):Spec Tryz.prog w0 80 [ptr gn 0,u64 now,u32 nb] (j9 ⟨n,none,i0⟩ gn s) (fun v:Value×Value×Value=>fp (s.l7 now nb).out v) (fun v=>j9 ⟨n+1,none,i0+5⟩ gn (s.l7 now nb)*ei (s.l7 now nb).out v):=
 (HT w0 ⟨n,none,i0⟩ gn s now nb hr hn).ob (aq.refl _) fun v=>⟨v,rfl,oN (Nat.le_succ n) (Nat.le_refl _) _⟩
theorem PF (n i0 gn:Nat) (s:Nd) (now:UInt64) (dst:UInt32) (t:cP) {c:Nat} (hr:s.Rest c) (hc:c≤8500) (vT:now.toNat≤4611686018427387904) (hn:s.now.toNat≤now.toNat) (hW:n≤80000) (uY:i0≤800000) (he:s.gA dst t=0):Spec Tryz.prog w0 82 [ptr gn 0,u64 now,u32 dst,aZ t] (j9 ⟨n,none,i0⟩ gn s) (fun v:Value×Value×Value=> .tuple #[fp (s.iG now dst t).out v,.int .i64 0]) (fun v=>j9 ⟨n+1,none,i0+5⟩ gn (s.iG now dst t)*ei (s.iG now dst t).out v):=
 Spec.QG hr fun hs=>De w0 n i0 gn s now dst t hr hc vT hn (by omega) uY (by omega) he
theorem PH (n i0 gn:Nat) (s:Nd) (now:UInt64) {c:Nat} (hr:s.Rest c) (hc:c≤8500) (vT:now.toNat≤4611686018427387904) (hn:s.now.toNat≤now.toNat) (hW:n≤80000) (uY:i0≤800000):Spec Tryz.prog w0 49 [ptr gn 0,u64 now] (j9 ⟨n,none,i0⟩ gn s) (fun v:Value×Value×Value=>fp (s.iH now).out v) (fun v=>j9 ⟨n+1,none,i0+5⟩ gn (s.iH now)*ei (s.iH now).out v):=
 Spec.QG hr fun hs=>(Fe w0 n i0 gn s now hr hc vT hn (by omega) uY (by omega)).ob (aq.refl _) fun v=>⟨v,rfl,oN (Nat.le_succ n) (Nat.le_refl _) _⟩
end
section
open Go.RowKit
def rL (c:jP):List Value:=[.int .i64 c.kind,u32 c.addr,aZ c.text,.int .i64 c.p.bK,.int .i64 c.p.kind,.int .i64 c.p.aH,.bool c.p.unknown,u32 c.p.id,u32 c.p.dest,u32 c.p.ak,u32 c.p.from_,u32 c.p.av,u32 c.p.bD,c.lv,aZ c.p.ar,u64 c.wait]
instance:cY rL 16:=⟨fun _=>rfl⟩
theorem Spec.MF {P:Program} {w0:World} {f:FuncId} {args:List Value} {X:af} {α:Type} {res:α→Value} {A B:α→af} {φ:α→Prop} (h:Spec P w0 f args X res (fun x=>A x*(pure' (φ x)*B x))):Spec P w0 f args X (fun x:{x // φ x}=>res x.1) (fun x=>A x.1*B x.1):=fun G w hs=>(h G w hs).mono fun e w' ⟨x,he,hx⟩=>by
 have qb:Sat w0 w' (pure' (φ x)*(A x*B x*G)):=hx.cast (by ac_rfl)
 obtain⟨hp,Wo⟩:=qb.pure
 exact⟨⟨x,hp⟩,he,Wo⟩
theorem GM {P:Program} {n:fT} {w0:World} {E:Env} {D:List Deferred} {H F F1 F2:af} {Q:Exit→St→Prop} {l l':List Oper} {id:Nat} (g g2 g3:Nat) (idx:List Nat) {bt rJ DV:TypeId} {cs pV D2:List Value} (hs:iT P l idx (fun _=>false) 1000=true) (hl:jK l idx=some l') (hR:cZ H g bt cs F1) (Ca:cZ F1 g2 rJ pV F2) (QL:cZ F2 g3 DV D2 F) (h:DL P n w0 l.toArray Q D (aK g bt cs*(aK g2 rJ pV*aK g3 DV D2)) emp (fun _=>false) 1000 0 false l' E F):WS P n w0 (.region id l.toArray true) Q ⟨E,D,H⟩:=
 iK idx l' (aK g bt cs*(aK g2 rJ pV*aK g3 DV D2)) emp F _ 1000 hs (by rw[aB,hR.eq,Ca.eq,QL.eq,ad,ad]) (gO hl) h
theorem NV {P:Program} {n:fT} {w0:World} {E:Env} {D:List Deferred} {H F:af} {ops:Array Oper} {l':List Oper} {Q:Exit→St→Prop} {gk a i0:Nat} {s:Nd} {now:UInt64} (hl:Own H (Lz gk a i0 s now) F) (h:∀gm gr,LS P n w0 ops Q l' ⟨E,D,aK gk 182 [ptr gm 0,ptr gr 0,aZ (b9 s.aI),u64 now]*(eQ gm s*(j9 ⟨a,none,i0⟩ gr s*F))⟩):LS P n w0 ops Q l' ⟨E,D,H⟩:=by
 rw[hl.eq]
 unfold Lz
 refine DD fun x=> ?_
 unfold Qf
 rw[ad,ad]
 exact h x.1 x.2
def uL (s:Nd) (t:UInt64) (d:UInt32) (x:cP):Nd:=if s.gA d x=0 then s.iG t d x else s
def sH (s:Nd) (t:UInt64) (d:UInt32) (x:cP):dS:=if s.gA d x=0 then(s.iG t d x).out else⟨[],false,[],[],[]⟩
theorem Pk.Jt {p:Pk} (h:p.Fits):p.bytes.length≤65536:=by
 obtain⟨⟨_,_,_,_,h1,h2⟩,_⟩:=h
 unfold Pk.bytes
 repeat' split
 all_goals simp only[List.length_append,List.length_cons,List.length_nil,al,jY]
 all_goals omega
theorem Dg {s:Nd} {k:Nat} (hr:s.Rest k) {t:UInt64} (ht:t.toNat≤4611686018427387904) (d:UInt32) (x:cP):qg (b9 s.aI) (uL s t d x) (sH s t d x):=by
 unfold uL sH
 split
 ·rename_i e;exact(hr.Dw ht d x (uK e)).qh
 ·simp[qg]
theorem uz (H:af):aq H (H*ei (⟨[],false,[],[],[]⟩:dS) (.slice none 0 0,.slice none 0 0,.slice none 0 0)):=(jq H).trans (aq.of_eq (nt _ _))
attribute [local irreducible] WS LS cD eM cn cv Spec bA aK
variable (w0:World)
theorem Ps (gm:Nat) (s:Nd) (now:UInt64) (d:UInt32) (t:cP) {c:Nat} (hr:s.Rest c) (hc:c≤8500) (hn:now.toNat≤4611686018427387904):Spec Tryz.prog w0 81 [ptr gm 0,u64 now,u32 d,aZ t] (eQ gm s) (fun x:SO×SO×SO=> .tuple #[fp (sH s now d t) (yo x),.int .i64 (s.gA d t)]) (fun x=>eQ gm (uL s now d t)*ei (sH s now d t) (yo x)):=by
 unfold uL sH
 by_cases he:s.gA d t=0
 ·rw[if_pos he,if_pos he,he]
  exact(EK w0 gm s now d t hr hc hn he).oo yo lZ (fun x w F hx=>by rw[ad,aM]at hx;exact eR hx)
 ·rw[if_neg he,if_neg he]
  exact(AU w0 gm s now d t he).ob (aq.refl _) fun _=>⟨((none,0,0),(none,0,0),(none,0,0)),rfl,uz _⟩
theorem PE (n i0 gn:Nat) (s:Nd) (now:UInt64) (dst:UInt32) (t:cP) {c:Nat} (hr:s.Rest c) (hc:c≤8500) (vT:now.toNat≤4611686018427387904) (hn:s.now.toNat≤now.toNat) (hW:n≤80000) (uY:i0≤800000):Spec Tryz.prog w0 82 [ptr gn 0,u64 now,u32 dst,aZ t] (j9 ⟨n,none,i0⟩ gn s) (fun x:SO×SO×SO=> .tuple #[fp (sH s now dst t) (yo x),.int .i64 (s.gA dst t)]) (fun x=>j9 ⟨n+1,none,i0+5⟩ gn (uL s now dst t)*ei (sH s now dst t) (yo x)):=by
 unfold uL sH
 by_cases he:s.gA dst t=0
 ·rw[if_pos he,if_pos he,he]
  exact(PF w0 n i0 gn s now dst t hr hc vT hn hW uY he).oo yo lZ (fun x w F hx=>by rw[ad,aM]at hx;exact eR hx)
 ·rw[if_neg he,if_neg he]
  exact(Bh w0 ⟨n,none,i0⟩ gn s now dst t he).ob (aq.refl _) fun _=>⟨((none,0,0),(none,0,0),(none,0,0)),rfl,(zf (Nat.le_succ n) (Nat.le_add_right _ 5)).trans (uz _)⟩
theorem G2 (n i0 gk:Nat) (s:Nd) (now:UInt64) (c:jP) {k:Nat} (h:s.pU k now) (hk:k≤8400) (J4:now.toNat≤4000000000000000000) (ht:c.text.length≤65536) (hp:c.p.Ok) (hv:c.lv.oneCell'=true) (hn:n≤80000) (uY:i0≤800000) (X:af) [hX:eX w0 X c.lv (UInt32×UInt32) 2 bB c.p.lost]:
 Spec Tryz.prog w0 38 [ptr gk 0,.agg (rL c).toArray] (Lz gk n i0 s now*X) (fun _:Unit=> .bool true) (fun _=>Lz gk (n+1) (i0+5) (c.step s (now+c.wait % 65536)) (now+c.wait % 65536)*X):=by
 refine Spec.Lz fun gm gr=> ?_
 refine Spec.enter Tryz.func38 rfl Tryz.ntmps38 rfl fun G=> ?_
 obtain⟨Hr,Wk⟩:=Gz now c.wait J4
 have hS:=h.step c (by omega) (t:=now+c.wait % 65536) (by omega) Hr
 obtain⟨s',eI⟩:∃s',s'=c.step s (now+c.wait % 65536):=⟨_,rfl⟩
 rw[←eI]at hS ⊢
 obtain⟨kind,addr,text,p,lv,wait⟩:=c
 simp only at ht hp hv hX Hr Wk eI ⊢
 obtain⟨t,Nq⟩:∃t,t=now+wait % 65536:=⟨_,rfl⟩
 rw[←Nq]at Hr Wk eI ⊢
 replace hS:s'.pU (k+1) t:=by rw[Nq];exact hS
 have Kc:t.toNat≤4611686018427387904:=by omega
 have oQ:s.now.toNat≤t.toNat:=Nat.le_trans h.now Hr
 have hr:=h.rest
 have p1:=fun v=>(zF w0 gm s t addr text hr (by omega) v (rows 5 1 bU v text)).oo yo lZ (fun x w F hx=>by rw[ad,ad,aM]at hx;exact eR hx)
 have r1:=(NK w0 n i0 gr s t addr text hr (by omega) oQ (by omega) hn).oo yo lZ (fun x w F hx=>by rw[ad,aM]at hx;exact eR hx)
 have p3:=(AP w0 gm s t addr hr).oo yo lZ (fun x w F hx=>by rw[ad,aM]at hx;exact eR hx)
 have r3:=(Sb w0 n i0 gr s t addr hr oQ).oo yo lZ (fun x w F hx=>by rw[ad,aM]at hx;exact eR hx)
 have p4:=Ps w0 gm s t addr text hr (by omega) Kc
 have r4:=PE w0 n i0 gr s t addr text hr (by omega) Kc oQ hn uY
 have p5:=(EL w0 gm s t hr (by omega) Kc).oo yo lZ (fun x w F hx=>by rw[ad,aM]at hx;exact eR hx)
 have r5:=(PH w0 n i0 gr s t hr (by omega) Kc oQ hn uY).oo yo lZ (fun x w F hx=>by rw[ad,aM]at hx;exact eR hx)
 have p6:=zA w0 (n+1) (i0+5) s.self h.self (b9 s.aI) (by have:=jj hr;omega) t
 simp only[fp,yo]at p1 r1 p3 r3 p4 r4 p5 r5
 subst Nq
 simp only[aN,rL,ad]
 repeat' (first|(show WS _ _ _ (.region 32 _ _) _ _;refine wB (W:=⟨n,none,i0⟩) (g:=gr) (s:=s) iI fun d o2 tw=> ?_;simp only[bN])|(show WS _ _ _ (.seq (.seq (.region 5 _ _) _) _) _ _;rename_i gc gu ga;revert g;intro gb;refine ab ?_;intro K hK;refine nC hK (fun τ=>∃(gm gr:Nat) (J:cP) (o:dS) (va vb:SO×SO×SO) (e:Int),qg J s' o∧J.length≤400∧τ=⟨[(0,ptr gk 0),(5,ptr ga 0),(6,ptr gb 0),(7,.int .i64 e),(8,.int .i64 e)],[],aK gk 182 [ptr gm 0,ptr gr 0,aZ J,u64 (now+wait % 65536)]*(aK ga 35 [aZ o.ay,.bool o.replace,cT va.1,cT va.2.1,cT va.2.2]*(aK gb 35 [aZ o.ay,.bool o.replace,cT vb.1,cT vb.2.1,cT vb.2.2]*(ei o (cT va.1,cT va.2.1,cT va.2.2)*(ei o (cT vb.1,cT vb.2.1,cT vb.2.2)*(eQ gm s'*(j9 ⟨n+1,none,i0+5⟩ gr s'*(X*G)))))))⟩) ?_ ?_)|refine ae (id:=1) (.range 12) 11 [4,6] ?_|refine cL (id:=1) 0 3 (.range 12) 11 [4] ?_|refine ae (id:=14) (.range 13) 11 [3,7,9] ?_|refine ae (id:=23) (.range 12) 10 [3,7,9] ?_|refine ae (id:=24) (.range 12) 10 [3,7,9] ?_|refine ae (id:=26) (.range 18) 12 [3,7,9,11] ?_|refine ae (id:=27) (.range 18) 12 [3,7,9,11] ?_|refine ae (id:=29) (.range 10) 8 [3,7] ?_|refine cL (id:=29) 5 0 (.range 10) 9 [] ?_|refine ae (id:=30) (.range 10) 8 [3,7] ?_|refine cL (id:=30) 6 0 (.range 10) 9 [] ?_|refine ae (id:=32) (.range 21) 15 [3,6,10,14] ?_|(refine ab ?_;intro K hK)|(refine hK _ ?_;clear hK K)|refine ax ?_|(refine aF ?_ ?_<;>intro hc<;>(try simp only[cS]at hc)<;>(try exact aG))|refine az ?_|((first|refine' LQ ?zh rfl ?_|refine' bP rfl rfl rfl ?zh ?_|refine' bk rfl rfl ?zh ?_);case zh=>intro F';first|exact bp rfl rfl iI (by first|assumption|omega|decide|rfl)|exact bH rfl rfl iI (by first|assumption|omega|decide|rfl)|exact du rfl rfl iI (by first|assumption|omega|decide|rfl)|exact kY rfl iI rfl iI iI iI)|((first|refine dn rfl rfl iI rfl ?_ ?_|refine dm rfl rfl iI rfl ?_ ?_|refine dU rfl rfl iI rfl ?_ ?_)<;>intro hc)|((first|refine' LQ ?zh rfl ?_|refine' bk rfl rfl ?zh ?_);case zh=>intro F';exact bE rfl rfl iI)|(refine bT ?_;intro g)|(refine bQ ?_;intro g)|(refine ai (vB rfl iI iI iI (by omega)) rfl ?_;intro vw)|(refine aD (aa iI rfl (p1 _) iI) rfl rfl rfl ?_;intro x1)|(refine aD (aa iI rfl p3 iI) rfl rfl rfl ?_;intro x1)|(refine aD (aa iI rfl r3 iI) rfl rfl rfl ?_;intro x2)|(refine aD (aa iI rfl p4 iI) rfl rfl rfl ?_;intro x1)|(refine aD (aa iI rfl r4 iI) rfl rfl rfl ?_;intro x2)|(refine aD (aa iI rfl p5 iI) rfl rfl rfl ?_;intro x1)|(refine aD (aa iI rfl r5 iI) rfl rfl rfl ?_;intro x2)|(refine aD (aa iI rfl p6 ⟨aB.symm⟩) rfl rfl rfl ?_;intro W7)|(refine NV (gk:=W7) (a:=n+1) (i0:=i0+5) (s:=Nd.new s.self (b9 s.aI) (now+wait % 65536)) (now:=now+wait % 65536) iI fun W8 W9=> ?_))
 ·subst hc
  refine aV (fun kk τ=>∃(i:Nat) (bs:cP),i+kk=List.length text∧bs.length=List.length text∧τ=⟨[(11,.int .i64 (i:Int)),(10,vw),(9,aZ text),(0,ptr gk 0),(3,ptr gc 0),(5,ptr ga 0),(6,ptr gb 0),(7,.int .i64 0),(8,.int .i64 0)],[],aK ga 35 [aZ (s.iX (now+wait % 65536) addr text).out.ay,.bool (s.iX (now+wait % 65536) addr text).out.replace,cT x1.1,cT x1.2.1,cT x1.2.2]*(aK gb 35 [aZ [],.bool false,.slice none 0 0,.slice none 0 0,.slice none 0 0]*(aK gk 182 [ptr gm 0,ptr gr 0,aZ (b9 s.aI),u64 (now+wait % 65536)]*(aK gc 101 [.int .i64 1,u32 addr,aZ text,.int .i64 p.bK,.int .i64 p.kind,.int .i64 p.aH,.bool p.unknown,u32 p.id,u32 p.dest,u32 p.ak,u32 p.from_,u32 p.av,u32 p.bD,lv,aZ p.ar,u64 wait]*(eQ gm (s.iX (now+wait % 65536) addr text)*(ei (s.iX (now+wait % 65536) addr text).out (cT x1.1,cT x1.2.1,cT x1.2.2)*(rows 5 1 bU vw bs*(j9 ⟨n,none,i0⟩ gr s*(X*G))))))))⟩) ?_ ?_
  ·exact⟨List.length text,_,⟨0,text,by omega,rfl,rfl⟩,cG,rfl,ah⟩
  rintro kk τ ⟨i,bs,qE,yl,rfl⟩
  rcases Nat.lt_or_ge i (List.length text)with h9|h9
  ·have h1:(i:Int)<(bs.length:Int):=by omega
   have h2:i<bs.length:=by omega
   repeat' (first|(refine ab ?_;intro K hK)|(refine hK _ ?_;clear hK K)|refine ax ?_|(refine aF ?_ ?_<;>intro hc<;>(try simp only[cS]at hc)<;>(try exact aG))|refine az ?_|((refine' LQ ?zh rfl ?_);case zh=>intro F';exact bp rfl rfl iI (by first|assumption|omega|decide|rfl))|((refine' bL ?zh ?_);(case zh=>exact oF rfl rfl iI iI rfl iI (by first|assumption|omega|(simp[al]<;>omega)));intro g)|fail)
   exact⟨kk - 1,_,by omega,⟨i+1,bs.set i 0,by omega,by rw[List.length_set];exact yl,rfl⟩,cG,rfl,ah⟩
  have h1:¬(i:Int)<(bs.length:Int):=by omega
  have es:s'=(s.iX (now+wait % 65536) addr text):=eI.trans (by simp[jP.step])
  repeat' (first|refine ae (id:=21) (.range 13) 11 [3,7,9] ?_|(refine ab ?_;intro K hK)|(refine hK _ ?_;clear hK K)|refine ax ?_|(refine aF ?_ ?_<;>intro hc<;>(try simp only[cS]at hc)<;>(try exact aG))|refine az ?_|((first|refine' LQ ?zh rfl ?_|refine' bP rfl rfl rfl ?zh ?_|refine' bk rfl rfl ?zh ?_);case zh=>intro F';exact bH rfl rfl iI (by first|assumption|omega|decide|rfl))|(refine bQ ?_;intro g)|(refine aD (aa iI rfl r1 iI) rfl rfl rfl ?_;intro x2))
  exact⟨_,⟨gm,gr,b9 s.aI,(s.iX (now+wait % 65536) addr text).out,x1,x2,0,by rw[es];exact(hr.wa (now+wait % 65536) addr text).qh,by have:=jj hr;omega,rfl⟩,cG,rfl,by rw[es];exact ah⟩
 ·subst hc
  have HM:=gJ w0 p hp lv hv X
  by_cases hF:p.Fits
  ·rw[Pk.mx hF]at HM
   have TY:=Pk.Jt hF
   have WA:=fun v=>(zF w0 gm s (now+wait % 65536) addr p.bytes hr (by omega) v (rows 5 1 bU v p.bytes)).oo yo lZ (fun x w F hx=>by rw[ad,ad,aM]at hx;exact eR hx)
   have WC:=(NK w0 n i0 gr s (now+wait % 65536) addr p.bytes hr (by omega) oQ (by omega) hn).oo yo lZ (fun x w F hx=>by rw[ad,aM]at hx;exact eR hx)
   simp only[fp,yo,Pk.val,Pk.cells]at HM WA WC
   repeat' (first|refine ae (id:=14) (.range 13) 11 [3,7,9] ?_|(refine ab ?_;intro K hK)|(refine hK _ ?_;clear hK K)|refine ax ?_|(refine aF ?_ ?_<;>intro hc<;>(try simp only[cS]at hc)<;>(try exact aG))|refine az ?_|((first|refine' LQ ?zh rfl ?_|refine' bP rfl rfl rfl ?zh ?_|refine' bk rfl rfl ?zh ?_);case zh=>intro F';first|exact du rfl rfl iI (by first|assumption|omega|decide|rfl)|exact kY rfl iI rfl iI iI iI)|(refine bQ ?_;intro g)|(refine ai (aa iI rfl HM iI) rfl ?_;intro ue)|(refine ai (vB rfl iI iI iI (by omega)) rfl ?_;intro vw)|(refine aD (aa iI rfl (WA _) iI) rfl rfl rfl ?_;intro x1))
   refine aV (fun kk τ=>∃(i:Nat) (bs:cP),i+kk=List.length p.bytes∧bs.length=List.length p.bytes∧τ=⟨[(11,.int .i64 (i:Int)),(10,vw),(9,aZ p.bytes),(0,ptr gk 0),(3,ptr gc 0),(5,ptr ga 0),(6,ptr gb 0),(7,.int .i64 0),(8,.int .i64 0)],[],aK ga 35 [aZ (s.iX (now+wait % 65536) addr p.bytes).out.ay,.bool (s.iX (now+wait % 65536) addr p.bytes).out.replace,cT x1.1,cT x1.2.1,cT x1.2.2]*(aK gb 35 [aZ [],.bool false,.slice none 0 0,.slice none 0 0,.slice none 0 0]*(aK gk 182 [ptr gm 0,ptr gr 0,aZ (b9 s.aI),u64 (now+wait % 65536)]*(aK gc 101 [.int .i64 2,u32 addr,aZ text,.int .i64 p.bK,.int .i64 p.kind,.int .i64 p.aH,.bool p.unknown,u32 p.id,u32 p.dest,u32 p.ak,u32 p.from_,u32 p.av,u32 p.bD,lv,aZ p.ar,u64 wait]*(eQ gm (s.iX (now+wait % 65536) addr p.bytes)*(ei (s.iX (now+wait % 65536) addr p.bytes).out (cT x1.1,cT x1.2.1,cT x1.2.2)*(rows 5 1 bU vw bs*(j9 ⟨n,none,i0⟩ gr s*(X*G))))))))⟩) ?_ ?_
   ·exact⟨List.length p.bytes,_,⟨0,p.bytes,by omega,rfl,rfl⟩,cG,rfl,ah⟩
   rintro kk τ ⟨i,bs,qE,yl,rfl⟩
   rcases Nat.lt_or_ge i (List.length p.bytes)with h9|h9
   ·have h1:(i:Int)<(bs.length:Int):=by omega
    have h2:i<bs.length:=by omega
    repeat' (first|(refine ab ?_;intro K hK)|(refine hK _ ?_;clear hK K)|refine ax ?_|(refine aF ?_ ?_<;>intro hc<;>(try simp only[cS]at hc)<;>(try exact aG))|refine az ?_|((refine' LQ ?zh rfl ?_);case zh=>intro F';exact bp rfl rfl iI (by first|assumption|omega|decide|rfl))|((refine' bL ?zh ?_);(case zh=>exact oF rfl rfl iI iI rfl iI (by first|assumption|omega|(simp[al]<;>omega)));intro g)|fail)
    exact⟨kk - 1,_,by omega,⟨i+1,bs.set i 0,by omega,by rw[List.length_set];exact yl,rfl⟩,cG,rfl,ah⟩
   have h1:¬(i:Int)<(bs.length:Int):=by omega
   have es:s'=(s.iX (now+wait % 65536) addr p.bytes):=eI.trans (by simp[jP.step,hF,Pk.vV hF])
   repeat' (first|refine ae (id:=21) (.range 13) 11 [3,7,9] ?_|(refine ab ?_;intro K hK)|(refine hK _ ?_;clear hK K)|refine ax ?_|(refine aF ?_ ?_<;>intro hc<;>(try simp only[cS]at hc)<;>(try exact aG))|refine az ?_|((first|refine' LQ ?zh rfl ?_|refine' bP rfl rfl rfl ?zh ?_|refine' bk rfl rfl ?zh ?_);case zh=>intro F';exact bH rfl rfl iI (by first|assumption|omega|decide|rfl))|(refine bQ ?_;intro g)|(refine aD (aa iI rfl WC iI) rfl rfl rfl ?_;intro x2))
   exact⟨_,⟨gm,gr,b9 s.aI,(s.iX (now+wait % 65536) addr p.bytes).out,x1,x2,0,by rw[es];exact(hr.wa (now+wait % 65536) addr p.bytes).qh,by have:=jj hr;omega,rfl⟩,cG,rfl,by rw[es];exact ah⟩
  ·rw[Pk.my hF]at HM
   simp only[Pk.val,Pk.cells]at HM
   have es:s'=s:=eI.trans (by simp[jP.step,hF])
   repeat' (first|(refine ab ?_;intro K hK)|(refine hK _ ?_;clear hK K)|refine ax ?_|(refine aF ?_ ?_<;>intro hc<;>(try simp only[cS]at hc)<;>(try exact aG))|refine az ?_|((refine' LQ ?zh rfl ?_);case zh=>intro F';exact fC rfl rfl iI (by first|assumption|omega|decide|rfl))|(refine ai (aa iI rfl HM iI) rfl ?_;intro ue))
   refine aC (.inl rfl) rfl rfl ⟨(),rfl,?_⟩
   rw[es]
   refine Aw gm gr ?_
   have fin:∀A B Z:af,aq (A*(B*(j9 ⟨n,none,i0⟩ gr s*Z))) (A*(B*(j9 ⟨n+1,none,i0+5⟩ gr s*Z))):=fun A B Z=>aq.tail _ (aq.tail _ (oN (Nat.le_succ n) (Nat.le_add_right _ 5) _))
   refine aq.trans ?_ (fin _ _ _)
   exact ah
 ·subst hc
  have es:s'=(s.l7 (now+wait % 65536) addr):=eI.trans (by simp[jP.step])
  exact⟨_,⟨gm,gr,b9 s.aI,(s.l7 (now+wait % 65536) addr).out,x1,x2,0,by rw[es];exact(hr.GA (now+wait % 65536) addr).qh,by have:=jj hr;omega,rfl⟩,cG,rfl,by rw[es];exact ah⟩
 ·subst hc
  have es:s'=(uL s (now+wait % 65536) addr text):=eI.trans (by simp[jP.step,uL])
  exact⟨_,⟨gm,gr,b9 s.aI,(sH s (now+wait % 65536) addr text),x1,x2,(s.gA addr text),by rw[es];exact Dg hr Kc addr text,by have:=jj hr;omega,rfl⟩,cG,rfl,by rw[es];exact ah⟩
 ·subst hc
  have es:s'=(s.iH (now+wait % 65536)):=eI.trans (by simp[jP.step])
  exact⟨_,⟨gm,gr,b9 s.aI,(s.iH (now+wait % 65536)).out,x1,x2,0,by rw[es];exact(hr.Dx (by omega) Kc).qh,by have:=jj hr;omega,rfl⟩,cG,rfl,by rw[es];exact ah⟩
 ·subst hc
  have es:s'=Nd.new s.self (b9 s.aI) (now+wait % 65536):=eI.trans (by simp[jP.step])
  refine⟨_,⟨W8,W9,b9 s'.aI,⟨[],false,[],[],[]⟩,((none,0,0),(none,0,0),(none,0,0)),((none,0,0),(none,0,0),(none,0,0)),0,by simp[qg],by have:=jj hS.rest;omega,rfl⟩,cG,rfl,?_⟩
  rw[es]
  refine(jq _).trans ?_
  refine(jq _).trans ?_
  exact ah
 ·have es:s'=s:=eI.trans (by simp[jP.step, *])
  refine⟨_,⟨gm,gr,b9 s.aI,⟨[],false,[],[],[]⟩,((none,0,0),(none,0,0),(none,0,0)),((none,0,0),(none,0,0),(none,0,0)),0,by rw[es];simp[qg],by have:=jj hr;omega,rfl⟩,cG,rfl,?_⟩
  rw[es]
  have fin:∀A B C D E' F' Z:af,aq (A*(B*(C*(D*(E'*(F'*(j9 ⟨n,none,i0⟩ gr s*Z))))))) (A*(B*(C*(D*(E'*(F'*(j9 ⟨n+1,none,i0+5⟩ gr s*Z))))))):=fun A B C D E' F' Z=>aq.tail _ (aq.tail _ (aq.tail _ (aq.tail _ (aq.tail _ (aq.tail _ (oN (Nat.le_succ n) (Nat.le_add_right _ 5) _))))))
  refine aq.trans ?_ (fin _ _ _ _ _ _ _)
  refine(jq _).trans ?_
  refine(jq _).trans ?_
  exact ah
 ·clear hK K p1 r1 p3 r3 p4 r4 p5 r5 p6 eI
  rintro τ ⟨gm,gr,J,o,va,vb,e,hj,Ng,rfl⟩
  have ok:=hS.rest.inv.dp.dp
  have Zb:=Hu hj hS.rest
  have q1:=ua w0 o (cT va.1,cT va.2.1,cT va.2.2) (cT vb.1,cT vb.2.1,cT vb.2.2)
  have q2:=CV w0 gk (ptr gm 0) (ptr gr 0) J (now+wait % 65536) o (by omega) (cT vb.1,cT vb.2.1,cT vb.2.2)
  have qF:(if o.replace then []else J)++o.ay=b9 s'.aI:=hj
  rw[qF]at q2
  have q3:=(AT w0 gm s' ok).MF
  have q5:=HD w0 gm s'
  simp only[fp]at q1 q2
  repeat' (first|(refine ab ?_;intro K hK)|(refine hK _ ?_;clear hK K)|refine ax ?_|refine az ?_|(refine ai (aa iI rfl q1 iI) rfl ?_;intro u1)|(refine ai (aa iI rfl q2 iI) rfl ?_;intro u2))
  refine wB (W:=⟨n+1,none,i0+5⟩) (g:=gr) (s:=s') iI fun d o2 tw=> ?_
  refine mP (g:=d.tb) (self:=s'.self) (ls:=s'.ls) iI fun v ys hR=> ?_
  have Ns:=hR.list ok
  have q4:=fun x:{x:Value×List da // x.2.map (·.1)=cE s'.ls}=>ED w0 x.1.2 ys (x.2.trans Ns.symm) (by have h1:=congrArg List.length x.2;have h2:=iO s'.ls;have h3:=ok.short;rw[List.length_map]at h1;omega) (fun p hp=>by
   have h1:p.1∈x.1.2.map (·.1):=List.mem_map_of_mem hp
   rw[x.2]at h1
   have:=ok.before p.1 (lO h1)
   omega) x.1.1 v
  simp only[bN,eA,ad]
  repeat' (first|(refine ab ?_;intro K hK)|(refine hK _ ?_;clear hK K)|refine ax ?_|(refine aF ?_ ?_<;>intro hc<;>(try simp only[cS]at hc)<;>(try exact aG))|refine az ?_|((first|refine' LQ ?zh rfl ?_|refine' bk rfl rfl ?zh ?_);case zh=>intro F';exact bp rfl rfl iI (by first|assumption|omega|decide|rfl))|(show WS _ _ _ (.region 40 _ true) _ _;refine GM gk gr d.tb [0,1,2,3,5,6,7,8,9,10,11,12,13,14,4,15,16] (by decide+kernel) rfl iI iI iI ?_)|(refine aD (aa iI rfl q3 iI) rfl rfl rfl ?_;intro x3)|(refine aD (aa iI rfl (q4 x3) iI) rfl rfl rfl ?_;intro u4)|(refine ai (aa iI rfl q5 iI) rfl ?_;intro u5))
  refine aC (.inl rfl) rfl rfl ⟨(),rfl,?_⟩
  refine Aw gm gr ?_
  have fin:∀A B Z:af,aq (A*(B*(aK gr 195 (bN s' d o2)*(rows 28 3 Rec.cells d.vr s'.aI*(rows 28 3 Rec.cells d.vh d.held*(aK d.tb 197 [u32 s'.self,v]*(rows 53 7 bJ v ys*(cQ ys*(bc d*Z))))))))) (A*(B*(j9 ⟨n+1,none,i0+5⟩ gr s'*Z))):=fun A B Z=>aq.tail _ (aq.tail _ (aq.j9 o2 tw (aq.tail _ (aq.tail _ (aq.tail _ (aq.ct hR (by unfold eA;exact ah)))))))
  refine aq.trans ?_ (fin _ _ _)
  simp only[bN]
  exact ah
end
section
open Go.ChangeShapes Go.WideShapes Go.ChangeAt Go.RowKit Go.Deep
theorem Dp {H:Type} {enc:TypeId×Value→H} {w:World} {base:Nat} {spare:Nat→Bool} {held:Bool} {t:TypeId} {fs:Array Field} {fuel:Nat} {c:List Value} {y:DataW H×List MemPlace} (hs:Tryz.prog.underlying t=some (.struct fs)) (h:DataW.trod enc Tryz.prog w base spare held fuel t c=some y):
 c.length=Tryz.prog.cellsOf t∧∃n,∀(j:Nat) (f:Field),fs[j]? =some f→∃y',DataW.trod enc Tryz.prog w base spare held n f.type (List.take (Tryz.prog.cellsOf f.type) (List.drop f.offset c))=some y':=by
 obtain⟨ys,n,_,_,hlen,Ns,hf⟩:=DataW.trod_struct hs h
 refine⟨hlen,n,fun j f hj=> ?_⟩
 have h1:=hf j f hj
 have Ng:j<fs.size:=(Array.getElem?_eq_some_iff.1 hj).1
 rw[List.getElem?_eq_getElem (by omega)]at h1
 exact⟨_,h1⟩
theorem G5:Tryz.prog.cellsOf 26=1:=by kernel_rfl
theorem G6:Tryz.prog.cellsOf 24=1:=by kernel_rfl
theorem G3:Tryz.prog.cellsOf 3=1:=by kernel_rfl
theorem G4:Tryz.prog.cellsOf 9=1:=by kernel_rfl
theorem Ju:Tryz.prog.cellsOf 44=12:=by kernel_rfl
theorem JA:Iw 101 rL (fun w c=>cM c.p.bK∧cM c.p.kind∧cM c.p.aH∧ix w 2 bB c.lv c.p.lost):=fun {H enc w base spare held n c y} h=>by
 obtain⟨hl,m,hf⟩:=Dp Tryz.underlying101 h
 rw[show Tryz.prog.cellsOf 101=16 by kernel_rfl]at hl
 obtain⟨y0,t0⟩:=hf 0 _ rfl
 obtain⟨y1,t1⟩:=hf 1 _ rfl
 obtain⟨y2,t2⟩:=hf 2 _ rfl
 obtain⟨y3,t3⟩:=hf 3 _ rfl
 obtain⟨y4,t4⟩:=hf 4 _ rfl
 replace t0:DataW.trod enc Tryz.prog w base spare held m 3 (List.take (Tryz.prog.cellsOf 3) (List.drop 0 c))=some y0:=t0
 rw[G3]at t0
 replace t1:DataW.trod enc Tryz.prog w base spare held m 26 (List.take (Tryz.prog.cellsOf 26) (List.drop 1 c))=some y1:=t1
 rw[G5]at t1
 replace t2:DataW.trod enc Tryz.prog w base spare held m 9 (List.take (Tryz.prog.cellsOf 9) (List.drop 2 c))=some y2:=t2
 rw[G4]at t2
 replace t3:DataW.trod enc Tryz.prog w base spare held m 44 (List.take (Tryz.prog.cellsOf 44) (List.drop 3 c))=some y3:=t3
 rw[Ju]at t3
 replace t4:DataW.trod enc Tryz.prog w base spare held m 24 (List.take (Tryz.prog.cellsOf 24) (List.drop 15 c))=some y4:=t4
 rw[G6]at t4
 obtain⟨a0,q0,_⟩:=vM Tryz.underlying3 t0
 obtain⟨a1,q1,_⟩:=kq Tryz.underlying26 t1
 obtain⟨a2,q2,_⟩:=Au Tryz.underlying9 t2
 obtain⟨⟨a3,b3⟩,q3,k0,k1,k2,_,k3⟩:=D3 t3
 obtain⟨a4,q4,_⟩:=FO Tryz.underlying24 t4
 refine⟨⟨a0,a1,a2,a3,b3,a4⟩,?_,k0,k1,k2,k3⟩
 match c,hl with
 |[c0,c1,c2,c3,c4,c5,c6,c7,c8,c9,PU,PV,YW,YX,YY,YZ],_=>
  simp only[Pa,K6,PL,MR,Pk.cells,List.drop_zero,List.drop_succ_cons,List.take_succ_cons,List.take_zero,List.cons.injEq,and_true]at q0 q1 q2 q3 q4
  obtain⟨r0,r1,r2,r3,r4,r5,r6,r7,r8,r9,YI,YJ⟩:=q3
  subst q0 q1 q2 q4 r0 r1 r2 r3 r4 r5 r6 r7 r8 r9 YI YJ
  rfl
end
section
open Go.RowKit
theorem Nd.pU.mono {s:Nd} {k:Nat} {t:UInt64} (h:s.pU k t):s.pU (k+1) t:=⟨h.rest.mono (Nat.le_succ k),h.self,h.ne,h.now⟩
attribute [local irreducible] WS LS cD eM cn cv Spec bA aK
variable (w0:World)
theorem EZ (self:UInt32) (j:cP) (now:UInt64) (v:Value) (l:List jP) (Pr:Int) (X:af) [hX:eX w0 X v jP 16 rL l] (l9:∀c∈l,eX w0 X c.lv (UInt32×UInt32) 2 bB c.p.lost∧c.lv.oneCell'=true∧cM c.p.bK∧cM c.p.kind∧cM c.p.aH):
 Spec Tryz.prog w0 16 [u32 self,aZ j,u64 now,v,.int .i64 Pr] X (fun _:Unit=> .bool true) (fun _=>X):=by
 refine Spec.enter Tryz.func16 rfl Tryz.ntmps16 rfl fun G=> ?_
 simp only[aN]
 by_cases b1:(65536:Int)<(j.length:Int)
 ·repeat' (first|(refine ab ?_;intro K hK)|(refine hK _ ?_;clear hK K)|refine ax ?_|(refine aF ?_ ?_<;>intro hc<;>(try simp only[cS]at hc)<;>(try exact aG))|refine az ?_|((refine' LQ ?zh rfl ?_);case zh=>intro F';exact bp rfl rfl iI (by first|assumption|omega|decide|rfl))|fail)
  exact aC (.inl rfl) rfl rfl ⟨(),rfl,ah⟩
 by_cases b2:(4096:Int)<(l.length:Int)
 ·repeat' (first|(refine ab ?_;intro K hK)|(refine hK _ ?_;clear hK K)|refine ax ?_|(refine aF ?_ ?_<;>intro hc<;>(try simp only[cS]at hc)<;>(try exact aG))|refine az ?_|((refine' LQ ?zh rfl ?_);case zh=>intro F';first|exact bp rfl rfl iI (by first|assumption|omega|decide|rfl)|exact bH rfl rfl iI (by first|assumption|omega|decide|rfl))|fail)
  exact aC (.inl rfl) rfl rfl ⟨(),rfl,ah⟩
 by_cases b3:(1099511627776:UInt64)<now
 ·repeat' (first|(refine ab ?_;intro K hK)|(refine hK _ ?_;clear hK K)|refine ax ?_|(refine aF ?_ ?_<;>intro hc<;>(try simp only[cS]at hc)<;>(try exact aG))|refine az ?_|((refine' LQ ?zh rfl ?_);case zh=>intro F';first|exact bp rfl rfl iI (by first|assumption|omega|decide|rfl)|exact bH rfl rfl iI (by first|assumption|omega|decide|rfl))|fail)
  exact aC (.inl rfl) rfl rfl ⟨(),rfl,ah⟩
 have J4:now.toNat≤1099511627776:=by
  have:=UInt64.not_lt.1 b3
  rw[UInt64.le_iff_toNat_le]at this
  exact this
 by_cases h0:self=0
 ·subst h0
  have p1:=EH w0 j (by omega) now
  repeat' (first|(refine ab ?_;intro K hK)|(refine hK _ ?_;clear hK K)|refine ax ?_|(refine aF ?_ ?_<;>intro hc<;>(try simp only[cS]at hc)<;>(try exact aG))|refine az ?_|((refine' LQ ?zh rfl ?_);case zh=>intro F';exact bH rfl rfl iI (by first|assumption|omega|decide|rfl))|((refine' LQ ?zh rfl ?_);case zh=>intro F';exact bE rfl rfl iI)|(refine ai (aa iI rfl p1 ⟨aB.symm⟩) rfl ?_;intro u1))
  exact aC (.inl rfl) rfl rfl ⟨(),rfl,ah⟩
 have p1:=zA w0 0 0 self h0 j (by omega) now
 repeat' (first|(refine ab ?_;intro K hK)|(refine hK _ ?_;clear hK K)|refine ax ?_|(refine aF ?_ ?_<;>intro hc<;>(try simp only[cS]at hc)<;>(try exact aG))|refine az ?_|((refine' LQ ?zh rfl ?_);case zh=>intro F';exact bH rfl rfl iI (by first|assumption|omega|decide|rfl))|((refine' LQ ?zh rfl ?_);case zh=>intro F';exact bE rfl rfl iI)|(refine ai (aa iI rfl p1 ⟨aB.symm⟩) rfl ?_;intro gk))
 refine aV (fun kk τ=>∃(i n i0:Nat) (s:Nd) (nw:UInt64),i+kk=l.length∧n≤i∧i0≤5*i∧s.pU i nw∧nw.toNat≤1099511627776+65536*i∧τ=⟨[(13,.int .i64 (i:Int)),(11,ptr gk 0),(3,v),(4,.int .i64 Pr)],[],Lz gk n i0 s nw*(X*G)⟩) ?_ ?_
 ·exact⟨l.length,_,⟨0,0,0,_,now,by omega,Nat.le_refl _,Nat.le_refl _,Nd.pU.new h0 j now,by omega,rfl⟩,cG,rfl,ah⟩
 rintro kk τ ⟨i,n,i0,s,nw,qE,hn,uY,hW,Ze,rfl⟩
 rcases Nat.lt_or_ge i l.length with h|h
 ·have h1:(i:Int)<(l.length:Int):=by omega
  obtain⟨c,hc⟩:∃c,l[i]? =some c:=⟨_,List.getElem?_eq_getElem h⟩
  obtain⟨Xp,hv,k1,k2,k3⟩:=l9 c (List.mem_of_getElem? hc)
  have Cj:(rL c).all (·.oneCell')=true:=by unfold rL;simp only[List.all_cons,List.all_nil,hv];rfl
  obtain⟨kind,addr,text,p,lv,wait⟩:=c
  simp only at Xp hv k1 k2 k3
  by_cases b4:(65536:Int)<(text.length:Int)
  ·repeat' (first|(refine ab ?_;intro K hK)|(refine hK _ ?_;clear hK K)|refine ax ?_|(refine aF ?_ ?_<;>intro hc<;>(try simp only[cS]at hc)<;>(try exact aG))|refine az ?_|((refine' LQ ?zh rfl ?_);case zh=>intro F';exact bp rfl rfl iI (by first|assumption|omega|decide|rfl))|(refine bT ?_;intro g)|(refine bL (bo rfl rfl iI iI Cj rfl) ?_;intro g))
   exact⟨kk - 1,_,by omega,⟨i+1,n,i0,s,nw,by omega,by omega,by omega,hW.mono,by omega,rfl⟩,cG,rfl,ah⟩
  by_cases b5:(65536:Int)<(p.ar.length:Int)
  ·repeat' (first|(refine ab ?_;intro K hK)|(refine hK _ ?_;clear hK K)|refine ax ?_|(refine aF ?_ ?_<;>intro hc<;>(try simp only[cS]at hc)<;>(try exact aG))|refine az ?_|((refine' LQ ?zh rfl ?_);case zh=>intro F';first|exact bp rfl rfl iI (by first|assumption|omega|decide|rfl)|exact bH rfl rfl iI (by first|assumption|omega|decide|rfl))|(refine bT ?_;intro g)|(refine bL (bo rfl rfl iI iI Cj rfl) ?_;intro g))
   exact⟨kk - 1,_,by omega,⟨i+1,n,i0,s,nw,by omega,by omega,by omega,hW.mono,by omega,rfl⟩,cG,rfl,ah⟩
  by_cases b6:(4096:Int)<(p.lost.length:Int)
  ·repeat' (first|(refine ab ?_;intro K hK)|(refine hK _ ?_;clear hK K)|refine ax ?_|(refine aF ?_ ?_<;>intro hc<;>(try simp only[cS]at hc)<;>(try exact aG))|refine az ?_|((refine' LQ ?zh rfl ?_);case zh=>intro F';first|exact bp rfl rfl iI (by first|assumption|omega|decide|rfl)|exact bH rfl rfl iI (by first|assumption|omega|decide|rfl))|(refine bT ?_;intro g)|(refine bL (bo rfl rfl iI iI Cj rfl) ?_;intro g))
   exact⟨kk - 1,_,by omega,⟨i+1,n,i0,s,nw,by omega,by omega,by omega,hW.mono,by omega,rfl⟩,cG,rfl,ah⟩
  by_cases b7:Pr<kind
  ·repeat' (first|(refine ab ?_;intro K hK)|(refine hK _ ?_;clear hK K)|refine ax ?_|(refine aF ?_ ?_<;>intro hc<;>(try simp only[cS]at hc)<;>(try exact aG))|refine az ?_|((refine' LQ ?zh rfl ?_);case zh=>intro F';first|exact bp rfl rfl iI (by first|assumption|omega|decide|rfl)|exact bH rfl rfl iI (by first|assumption|omega|decide|rfl))|(refine bT ?_;intro g)|(refine bL (bo rfl rfl iI iI Cj rfl) ?_;intro g))
   exact⟨kk - 1,_,by omega,⟨i+1,n,i0,s,nw,by omega,by omega,by omega,hW.mono,by omega,rfl⟩,cG,rfl,ah⟩
  have hw:=Gz nw wait (by omega)
  have Xn:=hW.step ⟨kind,addr,text,p,lv,wait⟩ (by omega) (t:=nw+wait % 65536) (by omega) hw.1
  have p2:=G2 w0 n i0 gk s nw ⟨kind,addr,text,p,lv,wait⟩ hW (by omega) (by omega) (by show text.length≤65536;omega) ⟨k1,k2,k3,by show p.lost.length≤100000;omega,by show p.ar.length≤100000;omega⟩ hv (by omega) (by omega) X
  generalize jP.step ⟨kind,addr,text,p,lv,wait⟩ s (nw+wait % 65536)=s2 at*
  repeat' (first|(refine ab ?_;intro K hK)|(refine hK _ ?_;clear hK K)|refine ax ?_|(refine aF ?_ ?_<;>intro hc<;>(try simp only[cS]at hc)<;>(try exact aG))|refine az ?_|((refine' LQ ?zh rfl ?_);case zh=>intro F';first|exact bp rfl rfl iI (by first|assumption|omega|decide|rfl)|exact bH rfl rfl iI (by first|assumption|omega|decide|rfl))|(refine bT ?_;intro g)|(refine bL (bo rfl rfl iI iI Cj rfl) ?_;intro g)|(refine ai (aa iI rfl p2 iI) rfl ?_;intro u2))
  --tg
  exact⟨kk - 1,_,by omega,⟨i+1,n+1,i0+5,s2,nw+wait % 65536,by omega,by omega,by omega,Xn,by omega,rfl⟩,cG,rfl,ah⟩
 have h1:¬(i:Int)<(l.length:Int):=by omega
 repeat' (first|(refine ab ?_;intro K hK)|(refine hK _ ?_;clear hK K)|refine ax ?_|(refine aF ?_ ?_<;>intro hc<;>(try simp only[cS]at hc)<;>(try exact aG))|refine az ?_|((refine' LQ ?zh rfl ?_);case zh=>intro F';exact bH rfl rfl iI (by first|assumption|omega|decide|rfl))|fail)
 exact aC (.inl rfl) rfl rfl ⟨(),rfl,ah⟩
end
section
open Go.RowKit
attribute [local irreducible] WS LS cD eM cn cv Spec bA aK
variable (w0:World)
theorem Zq (self:UInt32) (j:cP) (now:UInt64) (v:Value) (l:List jP) (X:af) [hX:eX w0 X v jP 16 rL l] (l9:∀c∈l,eX w0 X c.lv (UInt32×UInt32) 2 bB c.p.lost∧c.lv.oneCell'=true∧cM c.p.bK∧cM c.p.kind∧cM c.p.aH):
 Spec Tryz.prog w0 5 [u32 self,aZ j,u64 now,v] X (fun _:Unit=> .bool true) (fun _=>X):=by
 have p1:=EZ w0 self j now v l 6 X l9
 refine Spec.enter Tryz.func5 rfl Tryz.ntmps5 rfl fun G=> ?_
 simp only[aN]
 repeat' (first
  |(refine ab ?_;intro K hK)
  |(refine hK _ ?_;clear hK K)
  |(with_reducible (first|refine vZ ?_|refine Gv ?_|refine rH ?_|refine BS ?_|refine rI rfl ?_|refine Bl ?_|refine wO ?_|refine Gy (by assumption) ?_))
  |refine pt ?_
  |refine z7 ?_
  |((refine' LQ ?zh rfl ?_);case zh=>intro F';first|exact bC rfl|exact kC rfl)
  |(first|refine oG ?_|refine FD ?_|refine DI ?_|refine FC ?_|refine I9 ?_)
  |(show WS _ _ _ (.cond _ _ _) _ _;first|refine wy rfl iI ?_|refine BH rfl iI ?_|refine wx rfl (by assumption) ?_|refine wu rfl (by assumption) ?_|(refine pr rfl ?_ ?_<;>intro hc<;>(try simp only[cS]at hc)<;>(try(exfalso;first|contradiction|omega;done))))
  |(refine ai (aa iI rfl p1 iI) rfl ?_;intro u1))
 exact aC (.inl rfl) rfl rfl ⟨(),rfl,ah⟩
end
end Go.Proofs.YtapoehkdnglahabGreat
